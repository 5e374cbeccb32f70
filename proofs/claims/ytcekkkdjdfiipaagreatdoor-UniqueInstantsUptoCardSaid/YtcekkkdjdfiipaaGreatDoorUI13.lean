/- Part 13 of the proof of the law. -/
import Derived.Test.YtcekkkdjdfiipaaGreatDoorUI12
import Derived.StillTailTactics
set_option linter.unusedVariables false
set_option linter.unusedSimpArgs false
set_option maxRecDepth 100000
noncomputable section
namespace Go.Sim.M
abbrev TyE:Type:=Fin 1099511627777×Int×Int
def intsE (x:TyE):List Int:=[(x.1.val:Int),x.2.1,x.2.2]
def cmpE (x y:TyE):Int:=(x.1.val:Int) - (y.1.val:Int)
end Go.Sim.M
namespace Go.Proofs
open Go.RowKit Go.Sim Go.Sim.M Go.Sort
set_option maxHeartbeats 1000000 in
theorem Tryz.walkE (a b c a' b' c' r:Int) (hr:IntKind.i64.wrap (a - a')=r) (W:World):Calls Tryz.prog 116 #[.agg #[.int .i64 a,.int .i64 b,.int .i64 c],.agg #[.int .i64 a',.int .i64 b',.int .i64 c']] W fun e w'=>e=.returned (.int .i64 r)/\∃ q os',w'=Sort.grow (W.drewN q) os':=by
 go_enter Tryz.func116,Tryz.ntmps116
 go_wp2
 go_ret
 subst hr;exact ⟨rfl,0,_,by rw [alloc_eq_grow,alloc_eq_grow,grow_grow];rfl⟩
end Go.Proofs
namespace Go.Sim.M
open Go.RowKit Go.Proofs Go.Sort
def isE:AV->Bool
 | .agg [.int .i64 a,.int .i64 _,.int .i64 _]=>decide (0<=a)&&decide (a<=1099511627776)
 | _=>false
def decE:AV->TyE
 | .agg [.int _ a,.int _ b,.int _ c]=>(Fin.ofNat 1099511627777 a.toNat,b,c)
 | _=>default
noncomputable def srtE (xs:List AV):List AV:=(pdqL cmpE (xs.map decE)).map (encI intsE)
theorem xFP {x:AV} (h:isE x=true):encI intsE (decE x)=x:=by
 unfold isE at h;split at h
 . rename_i a b c;simp only [Bool.and_eq_true,decide_eq_true_eq] at h;have:a.toNat % 1099511627777=a.toNat:=Nat.mod_eq_of_lt (by omega)
   simp only [decE,encI,intsE,List.map_cons,List.map_nil,Fin.ofNat,this,Int.toNat_of_nonneg h.1]
 . simp at h
theorem xEk {xs:List AV} (h:xs.all isE=true):(xs.map decE).map (encI intsE)=xs:=by
 rw [List.map_map]
 conv=>rhs;rw [<-List.map_id xs]
 refine List.map_congr_left fun x hx=>?_
 exact xFP (List.all_eq_true.1 h x hx)
theorem ltE (x y:TyE):ltOf cmpE x y=decide (x.1.val<y.1.val):=by
 unfold ltOf cmpE;by_cases h:x.1.val<y.1.val
 . rw [decide_eq_true h,decide_eq_true (by omega)]
 . rw [decide_eq_false h,decide_eq_false (by omega)]
theorem swoE:SWO (ltOf cmpE) where
 irrefl x:=by rw [ltE];simp
 trans x y z h1 h2:=by rw [ltE] at *;simp at *;omega
 ntrans x y z h1 h2:=by rw [ltE] at *;simp at *;omega
noncomputable def xwM:List AV->List Box->Option (Bool×AV×List Box)
 | [.osl (.b 0) ver 0 n,.func g []],[⟨ver',3,ty,xs,false,true⟩]=>match Nat.beq g 116&&Nat.beq ty 132 with
  | true=>some (Nat.beq ver ver'&&(Nat.beq n xs.length&&(decide (n<4611686018427387904)&&xs.all isE)),.tuple [],[⟨ver',3,132,srtE xs,false,true⟩])
  | false=>none
 | _,_=>none
theorem xHO:OmOk Tryz.prog xL2 115 xwM:=fun Q H r H' h=>by
 unfold xwM at h;split at h
 . rename_i ver n g O ty xs;split at h
   case h_2=>simp at h
   rename_i hg;simp only [Bool.and_eq_true] at hg;obtain rfl:=Nat.eq_of_beq_eq_true hg.1;obtain rfl:=Nat.eq_of_beq_eq_true hg.2;simp only [Option.some.injEq,Prod.mk.injEq,Bool.and_eq_true,decide_eq_true_eq] at h;obtain ⟨⟨h1,h2,h3,h4⟩,rfl,rfl⟩:=h;obtain rfl:=Nat.eq_of_beq_eq_true h1;obtain rfl:=Nat.eq_of_beq_eq_true h2;have q:∃ ti,xLk Tryz.prog 132=some ti/\ti.sz=3/\ti.agg=true:=by
    have h:(match xLk Tryz.prog 132 with|some ti=>(ti.sz==3)&&ti.agg|none=>false)=true:=by kernel_rfl
    split at h
    . rename_i ti q;simp only [Bool.and_eq_true,beq_iff_eq] at h;exact ⟨ti,q,h.1,h.2⟩
    . simp at h
   obtain ⟨ti,q,hz,ha⟩:=q;have J:=xsR (P:=Tryz.prog) (Inv:=xL2) Tryz.srl115 3 (by decide) (fun w=>by rw [<-ha];exact xlA q w) (fun w=>by rw [<-hz];exact xcX q w)
    intsE (fun _=>rfl) cmpE swoE 116 rfl (xd7 Tryz.func115 rfl (by kernel_rfl)) (xpw (xd7 Tryz.func116 rfl (by kernel_rfl)))
    (fun x y W=>Tryz.walkE _ _ _ _ _ _ (cmpE x y) (by
     have:=x.1.isLt;have:=y.1.isLt;unfold cmpE;exact xdX (by omega) (by omega)) W)
    ver 132 rfl (xs.map decE) (by simpa using h3)
   rw [List.length_map,xEk h4] at J;exact J
 . simp at h
end Go.Sim.M
namespace Go.Sim.M
abbrev TyS:Type:=Fin 1099511627777×Int
def intsS (x:TyS):List Int:=[(x.1.val:Int),x.2]
def cmpS (x y:TyS):Int:=(x.1.val:Int) - (y.1.val:Int)
end Go.Sim.M
namespace Go.Proofs
open Go.RowKit Go.Sim Go.Sim.M Go.Sort
set_option maxHeartbeats 1000000 in
theorem Tryz.walkS (a b a' b' r:Int) (hr:IntKind.i64.wrap (a - a')=r) (W:World):Calls Tryz.prog 84 #[.agg #[.int .i64 a,.int .i64 b],.agg #[.int .i64 a',.int .i64 b']] W fun e w'=>e=.returned (.int .i64 r)/\∃ q os',w'=Sort.grow (W.drewN q) os':=by
 go_enter Tryz.func84,Tryz.ntmps84
 go_wp2
 go_ret
 subst hr;exact ⟨rfl,0,_,by rw [alloc_eq_grow,alloc_eq_grow,grow_grow];rfl⟩
end Go.Proofs
namespace Go.Sim.M
open Go.RowKit Go.Proofs Go.Sort
def isS:AV->Bool
 | .agg [.int .i64 a,.int .i64 _]=>decide (0<=a)&&decide (a<=1099511627776)
 | _=>false
def decS:AV->TyS
 | .agg [.int _ a,.int _ b]=>(Fin.ofNat 1099511627777 a.toNat,b)
 | _=>default
noncomputable def srtS (xs:List AV):List AV:=(pdqL cmpS (xs.map decS)).map (encI intsS)
theorem xFQ {x:AV} (h:isS x=true):encI intsS (decS x)=x:=by
 unfold isS at h;split at h
 . rename_i a b;simp only [Bool.and_eq_true,decide_eq_true_eq] at h;have:a.toNat % 1099511627777=a.toNat:=Nat.mod_eq_of_lt (by omega)
   simp only [decS,encI,intsS,List.map_cons,List.map_nil,Fin.ofNat,this,Int.toNat_of_nonneg h.1]
 . simp at h
theorem xEl {xs:List AV} (h:xs.all isS=true):(xs.map decS).map (encI intsS)=xs:=by
 rw [List.map_map]
 conv=>rhs;rw [<-List.map_id xs]
 refine List.map_congr_left fun x hx=>?_
 exact xFQ (List.all_eq_true.1 h x hx)
theorem ltS (x y:TyS):ltOf cmpS x y=decide (x.1.val<y.1.val):=by
 unfold ltOf cmpS;by_cases h:x.1.val<y.1.val
 . rw [decide_eq_true h,decide_eq_true (by omega)]
 . rw [decide_eq_false h,decide_eq_false (by omega)]
theorem swoS:SWO (ltOf cmpS) where
 irrefl x:=by rw [ltS];simp
 trans x y z h1 h2:=by rw [ltS] at *;simp at *;omega
 ntrans x y z h1 h2:=by rw [ltS] at *;simp at *;omega
noncomputable def xwN:List AV->List Box->Option (Bool×AV×List Box)
 | [.osl (.b 0) ver 0 n,.func g []],[⟨ver',2,ty,xs,false,true⟩]=>match Nat.beq g 84&&Nat.beq ty 121 with
  | true=>some (Nat.beq ver ver'&&(Nat.beq n xs.length&&(decide (n<4611686018427387904)&&xs.all isS)),.tuple [],[⟨ver',2,121,srtS xs,false,true⟩])
  | false=>none
 | _,_=>none
theorem xHP:OmOk Tryz.prog xL2 83 xwN:=fun Q H r H' h=>by
 unfold xwN at h;split at h
 . rename_i ver n g O ty xs;split at h
   case h_2=>simp at h
   rename_i hg;simp only [Bool.and_eq_true] at hg;obtain rfl:=Nat.eq_of_beq_eq_true hg.1;obtain rfl:=Nat.eq_of_beq_eq_true hg.2;simp only [Option.some.injEq,Prod.mk.injEq,Bool.and_eq_true,decide_eq_true_eq] at h;obtain ⟨⟨h1,h2,h3,h4⟩,rfl,rfl⟩:=h;obtain rfl:=Nat.eq_of_beq_eq_true h1;obtain rfl:=Nat.eq_of_beq_eq_true h2;have q:∃ ti,xLk Tryz.prog 121=some ti/\ti.sz=2/\ti.agg=true:=by
    have h:(match xLk Tryz.prog 121 with|some ti=>(ti.sz==2)&&ti.agg|none=>false)=true:=by kernel_rfl
    split at h
    . rename_i ti q;simp only [Bool.and_eq_true,beq_iff_eq] at h;exact ⟨ti,q,h.1,h.2⟩
    . simp at h
   obtain ⟨ti,q,hz,ha⟩:=q;have J:=xsR (P:=Tryz.prog) (Inv:=xL2) Tryz.srl83 2 (by decide) (fun w=>by rw [<-ha];exact xlA q w) (fun w=>by rw [<-hz];exact xcX q w)
    intsS (fun _=>rfl) cmpS swoS 84 rfl (xd7 Tryz.func83 rfl (by kernel_rfl)) (xpw (xd7 Tryz.func84 rfl (by kernel_rfl)))
    (fun x y W=>Tryz.walkS _ _ _ _ (cmpS x y) (by
     have:=x.1.isLt;have:=y.1.isLt;unfold cmpS;exact xdX (by omega) (by omega)) W)
    ver 121 rfl (xs.map decS) (by simpa using h3)
   rw [List.length_map,xEl h4] at J;exact J
 . simp at h
end Go.Sim.M
namespace Go.Sim.M
open Go.RowKit Go.Proofs
noncomputable def E1:Env:=(xGK.E.withM 83 xwN).withM 115 xwM
theorem xGH:xLl Tryz.prog xL2 E1:=(xGK.ok.withM xHP).withM xHO
noncomputable def xJl:EO:=EO.mk E1 xGH
end Go.Sim.M
namespace Go.Sim.M
open Go.IntKind (i64 u64 u8)
open Go.RowKit Go.Proofs
def xhK:Env:=E1.fn 29 1 (lsOf []) (xLI [])
theorem xv4:xLl P0 (xL2.at 1) xhK:=xGH.fn
theorem xt7:LoOk P0 (xL2.at xhK.pin) xhK (Tryz.f85.body.getD .skip):=xhW (by kernel_rfl)
def xoV {T:Type} (k:Nat) (a n:Int) (b:LA) (δ:T) (κ:Bool×(Nat×LA)×(Nat×LA)->T):T:=br (rmB k b 1 16) (κ (false,(0,[]),(k+1,b++[AV.agg [AV.int .i64 a,AV.int .i64 n]]))) δ
def xrG {T:Type} (k:Nat) (b n:Int) (a:LA) (δ:T) (κ:Bool×(Nat×LA)×(Nat×LA)->T):T:=br (decide ((↑k:Int)>0)) (br (decide (0<=i64.wrap ((↑k:Int) - 1))&&decide (i64.wrap ((↑k:Int) - 1)<(↑k:Int))) (br (decide (0+(i64.wrap ((↑k:Int) - 1)).toNat<a.length)&&xLj (Sh.int .i64) ((a.getD (0+(i64.wrap ((↑k:Int) - 1)).toNat) .top).cells.getD 1 .top)) (br (((a.getD (0+(i64.wrap ((↑k:Int) - 1)).toNat) .top).cells.getD 1 .top).toInt==n) (κ (true,(k,a),(0,[]))) (xoV k b n a δ κ)) δ) δ) (xoV k b n a δ κ)
def xcH (k:Nat) (a n:Int) (b:LA):=xrG k a n b none some
theorem xBN (k:Nat) (a n:Int) (xs:LA):Enc (fun (p:Bool×(Nat×LA)×(Nat×LA))=>((br p.1 ((AV.osl 0 0 0 p.2.1.1,([⟨0,2,121,p.2.1.2,false,true⟩]:List Box))) ((AV.osl 0 1 0 p.2.2.1,([⟨1,2,121,p.2.2.2,false,true⟩]:List Box)))):(AV×List Box))) (xcH k a n xs) (XFM P0 xhK Tryz.f85 (Tryz.f85.body.getD .skip) [AV.osl (0:Id) 0 0 k,AV.int .i64 a,AV.int .i64 n] [{ ver:=0,sz:=2,ty:=(121:TypeId),xs:=xs,frz:=false,pm:=true }]):=by
 have h:XFM P0 xhK Tryz.f85 (Tryz.f85.body.getD .skip) [AV.osl (0:Id) 0 0 k,AV.int .i64 a,AV.int .i64 n] [{ ver:=0,sz:=2,ty:=(121:TypeId),xs:=xs,frz:=false,pm:=true }]=xrG k a n xs none (fun (p:Bool×(Nat×LA)×(Nat×LA))=>some ((br p.1 ((AV.osl 0 0 0 p.2.1.1,([⟨0,2,121,p.2.1.2,false,true⟩]:List Box))) ((AV.osl 0 1 0 p.2.2.1,([⟨1,2,121,p.2.2.2,false,true⟩]:List Box)))):(AV×List Box))):=by kernel_rfl
 rw [h];unfold xcH xrG xoV;repeat' (first|refine Enc.br ?_ ?_|exact Enc.none|exact Enc.some rfl)
def xBM:LA->List Box->Option (Bool×AV×List Box):=omOf (xL4 (sEq (xMf 0 0 0)) (xL4 (sEq (pInt .i64)) (xL4 (sEq (pInt .i64)) xL6))) (xL3 (xMi 0 2 (121:TypeId) false true xL7) xL5) fun (k,(a,(n,_))) (b,_)=>((xcH k a n b).isSome,(AV.osl 0 1 0 (br ((xcH k a n b).getD (false,(0,[]),(0,[]))).1 ((xcH k a n b).getD (false,(0,[]),(0,[]))).2.1.1 ((xcH k a n b).getD (false,(0,[]),(0,[]))).2.2.1),([⟨1,2,121,(br ((xcH k a n b).getD (false,(0,[]),(0,[]))).1 ((xcH k a n b).getD (false,(0,[]),(0,[]))).2.1.2 ((xcH k a n b).getD (false,(0,[]),(0,[]))).2.2.2),false,true⟩]:List Box)))
theorem xBL:OmOk P0 xL2 85 (xBM):=xtZ fun e f j i g=>by
 obtain ⟨k,⟨b,⟨n,_⟩⟩⟩:=e;obtain ⟨h,_⟩:=f;obtain ⟨c,a⟩:=Prod.mk.inj g;have hx:=xBN _ _ _ _ _ (xa6 (d:=(false,(0,[]),(0,[]))) c);revert hx a;generalize ((xcH k b n h).getD (false,(0,[]),(0,[])))=p;intro a hx;obtain ⟨rfl,rfl⟩:=Prod.mk.inj a;obtain ⟨t,⟨l,m⟩,o,q⟩:=p;have hg:GoodM P0 xL2 85 _ _ _ _:=xqH (p:=xhK.pin) (xqG xLu (xLv P0 _) rfl xv4 rfl Tryz.func85 rfl (by kernel_rfl) xt7 hx)
 cases t
 . exact hg
 . exact GoodM.bump1 rfl (by decide) hg
def xs1:EO:=xJl.wM xBL
def xkX {T:Type} (d:LA) (e:Int) (b:Nat) (c:Int) (a:LA) (δ:T) (κl:(Nat×Int×LA)->T) (κr:(Nat×LA)->T):T:=br (decide (c<e)) (br (ixI d c) (br (ixT d c 3 [Sh.int .i64,Sh.int .i64,Sh.int .i64] 0) (br (xdk (gC d c 0).toInt (gC d c 1).toInt) (br (rmB b a 2 16) (κl (b+2,i64.wrap (c+1),a++[AV.agg [AV.int .i64 (gC d c 0).toInt,AV.int .i64 (gC d c 2).toInt],AV.agg [AV.int .i64 (gC d c 1).toInt,AV.int .i64 (i64.wrap (0 - (gC d c 2).toInt))]])) δ) (κl (b,i64.wrap (c+1),a))) δ) δ) (κr (b,a))
def xdU (c:LA) (d:Int):StT (Nat×Int×LA) (Nat×LA):=fun (b,e,a)=>xkX c d b e a none inL inR
def xhy:=xs1.l 106 0 [] [] Tryz.f54 0 lk0 [3,10,11,12] [3] [(3,2,121)] (q4 (xMf 0 0 0) (qL 3) qI qI) (q1 (qB 0 2 121 xL7)) (fun (b,c,d,e,_) (a,_)=>(xdU c d,(b,e,a),fun p=>(.leaf (.exit 0) [AV.osl 0 0 0 p.1] [bF 0 2 121 p.2]))) (0,[]) fun (_,c,d,_,_) _ (b,e,a)=>(((b,c,d,e,()),(a,())),xkX c d b e a none)
def xrU (i:Int) (a:LA):=decide (0+i.toNat<a.length)
def xsS {T:Type} (b e:Nat) (d i:Int) (a c:LA) (δ:T) (κl:(Int×Int×LA×LA)->T) (κr:(Int×Int×LA×LA)->T):T:=br (decide (i<(↑b:Int))) (br (decide (0<=i)&&decide (i<(↑b:Int))) (br (xrU i a&&xLj (Sh.int .i64) ((a.getD (0+i.toNat) .top).cells.getD 0 .top)) (br (((a.getD (0+i.toNat) .top).cells.getD 0 .top).toInt==0) (br (decide (0<=i)&&decide (i<(↑b:Int))) (br (xrU i a&&xLj (Sh.int .i64) ((a.getD (0+i.toNat) .top).cells.getD 1 .top)) (κl (i64.wrap (d+((a.getD (0+i.toNat) .top).cells.getD 1 .top).toInt),i64.wrap (i+1),a,c)) δ) δ) (κr (d,i,a,c))) δ) δ) (κr (d,i,a,c))
def xik (b d:Nat):StT (Int×Int×LA×LA) (Int×Int×LA×LA):=fun (e,i,a,c)=>xsS b d e i a c none inL inR
def xj5:=xs1.l 106 0 [] [(3,xhy.lp)] Tryz.f54 1 lk0 [3,6,7,8] [3,6,7,8] [(3,2,121),(6,2,121)] (q4 (xMf 0 0 0) (xMf 1 0 0) qI qI) (q2 (qB 0 2 121 xL7) (qB 0 2 121 xL7)) (fun (a,c,e,i,_) (b,d,_)=>(xik a c,(e,i,b,d),fun p=>(.leaf (.exit 2) [AV.osl 0 0 0 a,AV.osl 1 0 0 c,AV.int .i64 p.1,AV.int .i64 p.2.1] [bF 0 2 121 p.2.2.1,bF 0 2 121 p.2.2.2]))) (0,0,[],[]) fun (a,c,_,_,_) _ (e,i,b,d)=>(((a,c,e,i,()),(b,d,())),xsS a c e i b d none)
def xhJ (i:Int) (a:LA):=decide (0+i.toNat<a.length)
def xiE {T:Type} (b f:Nat) (e d i:Int) (a c:LA) (δ:T) (κl:(Int×Int×LA×LA)->T) (κr:(Int×Int×LA×LA)->T):T:=br (decide (i<(↑b:Int))) (br (decide (0<=i)&&decide (i<(↑b:Int))) (br (xhJ i a&&xLj (Sh.int .i64) ((a.getD (0+i.toNat) .top).cells.getD 0 .top)) (br (((a.getD (0+i.toNat) .top).cells.getD 0 .top).toInt==e) (br (decide (0<=i)&&decide (i<(↑b:Int))) (br (xhJ i a&&xLj (Sh.int .i64) ((a.getD (0+i.toNat) .top).cells.getD 1 .top)) (κl (i64.wrap (d+((a.getD (0+i.toNat) .top).cells.getD 1 .top).toInt),i64.wrap (i+1),a,c)) δ) δ) (κr (d,i,a,c))) δ) δ) (κr (d,i,a,c))
def xcY (b d:Nat) (e:Int):StT (Int×Int×LA×LA) (Int×Int×LA×LA):=fun (f,i,a,c)=>xiE b d e f i a c none inL inR
def xj6:=xs1.l 106 0 [] [(3,xhy.lp),(11,xj5.lp)] Tryz.f54 3 lk0 [3,6,7,8,9] [3,6,7,8,9] [(3,2,121),(6,2,121)] (q5 (xMf 0 0 0) (xMf 1 0 0) qI qI qI) (q2 (qB 0 2 121 xL7) (qB 0 2 121 xL7)) (fun (a,c,f,i,e,_) (b,d,_)=>(xcY a c e,(f,i,b,d),fun p=>(.leaf (.exit 6) [AV.osl 0 0 0 a,AV.osl 1 0 0 c,AV.int .i64 p.1,AV.int .i64 p.2.1,AV.int .i64 e] [bF 0 2 121 p.2.2.1,bF 0 2 121 p.2.2.2]))) (0,0,[],[]) fun (a,c,_,_,e,_) _ (f,i,b,d)=>(((a,c,f,i,e,()),(b,d,())),xiE a c e f i b d none)
def xgQ (i:Int) (a:LA):=decide (0+i.toNat<a.length)&&xLj (Sh.int .i64) ((a.getD (0+i.toNat) .top).cells.getD 0 .top)
def xez (i:Int) (a:LA):=((a.getD (0+i.toNat) .top).cells.getD 0 .top).toInt
def xgR (b d:Nat) (e i:Int) (a c:LA):=Iter (xcY b d (xez i a)) (e,i,a,c)
def xhI (b d:Nat) (e i:Int) (a c:LA):=(xgR b d e i a c).getD (0,0,[],[])
def xhG (b d:Nat) (e i:Int) (a c:LA):=(xhI b d e i a c).snd
def xhH (b d:Nat) (e i:Int) (a c:LA):=(xhI b d e i a c).fst
def xhF (b d:Nat) (e i:Int) (a c:LA):=(xhG b d e i a c).snd
def xhE (b c:Nat) (e i:Int) (a d:LA):=xcH c (xez i a) (xhH b c e i a d) (xhF b c e i a d).snd
def xhD (b d:Nat) (e i:Int) (a c:LA):=(xhE b d e i a c).getD (false,(0,[]),0,[])
def xhB (b d:Nat) (e i:Int) (a c:LA):=(xhD b d e i a c).fst
def xhC (b d:Nat) (e i:Int) (a c:LA):=(xhD b d e i a c).snd
def xhz (b d:Nat) (e i:Int) (a c:LA):=(xhC b d e i a c).fst
def xhA (b d:Nat) (e i:Int) (a c:LA):=(xhC b d e i a c).snd
def xiD {T:Type} (b d:Nat) (e i:Int) (a c:LA) (δ:T) (κl:(Nat×Int×Int×LA×LA)->T) (κr:(Nat×LA)->T):T:=br (decide (i<(↑b:Int))) (br (decide (0<=i)&&decide (i<(↑b:Int))) (br (xgQ i a) (br (decide (xez i a<1099511627776)) (br (decide (0<=i)&&decide (i<(↑b:Int))) (br (xgQ i a) (br ((xgR b d e i a c).isSome) (br ((xhE b d e i a c).isSome) (κl (br (xhB b d e i a c) (xhz b d e i a c).fst (xhA b d e i a c).fst,xhH b d e i a c,(xhG b d e i a c).fst,(xhF b d e i a c).fst,br (xhB b d e i a c) (xhz b d e i a c).snd (xhA b d e i a c).snd)) δ) δ) δ) δ) (κr (d,c))) δ) δ) (κr (d,c))
def xdV (b:Nat):StT (Nat×Int×Int×LA×LA) (Nat×LA):=fun (d,e,i,a,c)=>xiD b d e i a c none inL inR
def xrV:=xs1.l 106 0 [] [(3,xhy.lp),(11,xj5.lp),(17,xj6.lp)] Tryz.f54 2 (lk1 xj6.ok) [3,6,7,8] [6] [(3,2,121),(6,2,121)] (q4 (xMf 0 0 0) (xMf 1 0 0) qI qI) (q2 (qB 0 2 121 xL7) (qB 0 2 121 xL7)) (fun (b,d,e,i,_) (a,c,_)=>(xdV b,(d,e,i,a,c),fun p=>(.leaf (.exit 4) [AV.osl 0 0 0 p.1] [bF 0 2 121 p.2]))) (0,[]) fun (b,_,_,_,_) _ (d,e,i,a,c)=>(((b,d,e,i,()),(a,c,())),xiD b d e i a c none)
def xql (l:LA):=(Iter (xdU l (↑l.length:Int)) (0,0,[])).getD (0,[])
def xjH (l:LA):=(xql l).fst
def xmE (l:LA):=(xql l).snd
def xqk (l:LA):=Iter (xik (xjH l) 0) (0,0,srtS (xmE l),[])
def xqj (l:LA):=(xqk l).getD (0,0,[],[])
def xqh (l:LA):=(xqj l).fst
def xqi (l:LA):=(xqj l).snd
def xqg (l:LA):=(xqi l).snd
def xrF (l:LA):=xcH 0 0 (xqh l) (xqg l).snd
def xrE (l:LA):=(xrF l).getD (false,(0,[]),0,[])
def xrC (l:LA):=(xrE l).snd
def xrD (l:LA):=(xrE l).fst
def xrA (l:LA):=(xrC l).snd
def xrB (l:LA):=(xrC l).fst
def xrz (l:LA):=Iter (xdV (xjH l)) (br (xrD l) (xrB l).fst (xrA l).fst,xqh l,(xqi l).fst,(xqg l).fst,br (xrD l) (xrB l).snd (xrA l).snd)
def xry (l:LA):=(xrz l).getD (0,[])
def xrv (l:LA):=(xry l).fst
def xrw (l:LA):=(xry l).snd
def xsy {T:Type} (l:LA) (δ:T) (κ:LA->T):T:=br ((Iter (xdU l (↑l.length:Int)) (0,0,[])).isSome) (br ((xjH l).beq (xmE l).length&&(decide (xjH l<4611686018427387904)&&(xmE l).all isS)) (br ((xqk l).isSome) (br ((xrF l).isSome) (br ((xrz l).isSome) (br (decide (0+xrv l<=(xrw l).length)&&true) (κ (List.take (xrv l) (List.drop 0 (xrw l)))) δ) δ) δ) δ) δ) δ
def xij (l:LA):=xsy l none some
def xDH:EO:=xs1.f Tryz.func54 106 0 [] [(3,xhy.lp),(11,xj5.lp),(17,xj6.lp),(15,xrV.lp)] (lks (lkC xhy.ok (lkC xj5.ok (lkC xrV.ok (lkC xj6.ok lkN))))) (u1 (uL 3)) (fun (l,_) _=>xsy l) (fun _ p=>AV.list 2 p) []
def xaL (l:LA) (n:Int) (a:LA) (e:Int) (d:Nat) (b:Int) (c:LA):=decide ((gC a b 1).toInt<n)
def xav (a:Nat):=decide (0<=i64.wrap ((↑a:Int) - 1))&&decide (i64.wrap ((↑a:Int) - 1)<(↑a:Int))
def xaf (a:Nat):Nat:=0+(i64.wrap ((↑a:Int) - 1)).toNat
def xaM (l:LA) (a:Int):=decide (i64.wrap (a+1)<(↑l.length:Int))
def xaw (b:Nat) (a:LA):=decide (xaf b<a.length)
def xaA {T:Type} (l d:LA) (b:Nat) (c:Int) (a:LA) (δ:T) (κl:(Nat×Int×LA)->T):T:=br (rmB b a 1 16) (κl (b+1,i64.wrap (c+1),a++[AV.agg [AV.int .i64 (gC d c 0).toInt,AV.int .i64 ((l.getD (i64.wrap (c+1)).toNat .top).cells.getD 0 .top).toInt]])) δ
def xaB {T:Type} (d:LA) (b:Nat) (c:Int) (a:LA) (δ:T) (κl:(Nat×Int×LA)->T):T:=br (rmB b a 1 16) (κl (b+1,i64.wrap (c+1),a++[AV.agg [AV.int .i64 (gC d c 0).toInt,AV.int .i64 1099511627776]])) δ
def xaH {T:Type} (l:LA) (n:Int) (d:LA) (e:Int) (a:Nat) (c:Int) (b:LA) (δ:T) (κl:(Nat×Int×LA)->T) (κr:(Nat×LA)->T):T:=br (decide (c<e)) (br (ixI d c) (br (ixT d c 2 [Sh.int .i64,Sh.int .i64] 0) (br (xaM l c) (br (decide (0<=i64.wrap (c+1))&&xaM l c) (br (decide ((i64.wrap (c+1)).toNat<l.length)&&xLj (Sh.int .i64) ((l.getD (i64.wrap (c+1)).toNat .top).cells.getD 0 .top)) (br (xaL l n d e a c b) (κl (a,i64.wrap (c+1),b)) (br (decide ((↑a:Int)>0)) (br (xav a) (br (xaw a b&&xLj (Sh.int .i64) ((b.getD (xaf a) .top).cells.getD 1 .top)) (br (((b.getD (xaf a) .top).cells.getD 1 .top).toInt==(gC d c 0).toInt) (br (xav a) (br (xaw a b) (κl (a,i64.wrap (c+1),b.set (xaf a) (AV.agg (List.take 1 (b.getD (xaf a) .top).cells++[AV.int .i64 ((l.getD (i64.wrap (c+1)).toNat .top).cells.getD 0 .top).toInt]++List.drop 2 (b.getD (xaf a) .top).cells)))) δ) δ) (xaA l d a c b δ κl)) δ) δ) (xaA l d a c b δ κl))) δ) δ) (br (xaL l n d e a c b) (κl (a,i64.wrap (c+1),b)) (br (decide ((↑a:Int)>0)) (br (xav a) (br (xaw a b&&xLj (Sh.int .i64) ((b.getD (xaf a) .top).cells.getD 1 .top)) (br (((b.getD (xaf a) .top).cells.getD 1 .top).toInt==(gC d c 0).toInt) (br (xav a) (br (xaw a b) (κl (a,i64.wrap (c+1),b.set (xaf a) (AV.agg (List.take 1 (b.getD (xaf a) .top).cells++[AV.int .i64 1099511627776]++List.drop 2 (b.getD (xaf a) .top).cells)))) δ) δ) (xaB d a c b δ κl)) δ) δ) (xaB d a c b δ κl)))) δ) δ) (κr (a,b))
def xal (l:LA) (n:Int) (c:LA) (d:Int):StT (Nat×Int×LA) (Nat×LA):=fun (b,e,a)=>xaH l n c d b e a none inL inR
def xmS:=xDH.l 62 0 [] [] Tryz.f53 0 lk0 [0,1,5,10,11,12] [5] [(5,2,50)] (q6 (qL 2) qI (xMf 0 0 0) (qL 2) qI qI) (q1 (qB 0 2 50 xL7)) (fun (l,n,b,c,d,e,_) (a,_)=>(xal l n c d,(b,e,a),fun p=>(.leaf (.exit 0) [AV.osl 0 0 0 p.1] [bF 0 2 50 p.2]))) (0,[]) fun (l,n,_,c,d,_,_) _ (b,e,a)=>(((l,n,b,c,d,e,()),(a,())),xaH l n c d b e a none)
def xlo (l:LA) (n:Int):=(Iter (xal l n l (↑l.length:Int)) (0,0,[])).getD (0,[])
def xlm (l:LA) (n:Int):=(xlo l n).fst
def xln (l:LA) (n:Int):=(xlo l n).snd
def xmD {T:Type} (l:LA) (n:Int) (δ:T) (κ:LA->T):T:=br ((Iter (xal l n l (↑l.length:Int)) (0,0,[])).isSome) (br (decide (0+xlm l n<=(xln l n).length)&&true) (κ (List.take (xlm l n) (List.drop 0 (xln l n)))) δ) δ
def xeE (l:LA) (n:Int):=xmD l n none some
def xzA:EO:=xDH.f Tryz.func53 62 0 [] [(3,xmS.lp)] (lk1 xmS.ok) (u2 (uL 2) uI) (fun (l,n,_) _=>xmD l n) (fun _ p=>AV.list 2 p) []
def xi7 {T:Type} (b e:LA) (f:Int) (c:Nat) (a:Int) (d:LA) (δ:T) (κl:(Nat×Int×LA)->T) (κr:(Nat×LA)->T):T:=br (decide (a<f)) (br (decide (0<=a)&&decide (a<e.length)) (br (decide (a.toNat<e.length)&&((e.getD a.toNat .top).cells.length==2&&xLq [Sh.int .i64,Sh.int .i64] (e.getD a.toNat .top).cells 0)) (br (xdk ((e.getD a.toNat .top).cells.getD 0 .top).toInt ((e.getD a.toNat .top).cells.getD 1 .top).toInt) (br (c==d.length&&(decide ((c+2)*24<=140737488355328)&&decide (c+2<=4611686018427387904))) (κl (c+2,i64.wrap (a+1),d++[AV.agg [AV.int .i64 ((e.getD a.toNat .top).cells.getD 0 .top).toInt,AV.int .i64 1,AV.int .i64 0],AV.agg [AV.int .i64 ((e.getD a.toNat .top).cells.getD 1 .top).toInt,AV.int .i64 (-1),AV.int .i64 0]])) δ) (κl (c,i64.wrap (a+1),d))) δ) δ) (κr (c,d))
def xbH (b d:LA) (e:Int):StT (Nat×Int×LA) (Nat×LA):=fun (c,f,a)=>xi7 b d e c f a none inL inR
def xll:=xzA.l 49 0 [] [] Tryz.f87 0 lk0 [1,5,10,11,12] [1,5] [(5,3,132)] (q5 (qL 2) (xMf 0 0 0) (qL 2) qI qI) (q1 (qB 0 3 132 xL7)) (fun (b,c,d,e,f,_) (a,_)=>(xbH b d e,(c,f,a),fun p=>(.leaf (.exit 0) [AV.list 2 b,AV.osl 0 0 0 p.1] [bF 0 3 132 p.2]))) (0,[]) fun (b,_,d,e,_,_) _ (c,f,a)=>(((b,c,d,e,f,()),(a,())),xi7 b d e c f a none)
def xi8 {T:Type} (d:LA) (e:Int) (b:Nat) (a:Int) (c:LA) (δ:T) (κl:(Nat×Int×LA)->T) (κr:(Nat×LA)->T):T:=br (decide (a<e)) (br (decide (0<=a)&&decide (a<d.length)) (br (decide (a.toNat<d.length)&&((d.getD a.toNat .top).cells.length==2&&xLq [Sh.int .i64,Sh.int .i64] (d.getD a.toNat .top).cells 0)) (br (xdk ((d.getD a.toNat .top).cells.getD 0 .top).toInt ((d.getD a.toNat .top).cells.getD 1 .top).toInt) (br (b==c.length&&(decide ((b+2)*24<=140737488355328)&&decide (b+2<=4611686018427387904))) (κl (b+2,i64.wrap (a+1),c++[AV.agg [AV.int .i64 ((d.getD a.toNat .top).cells.getD 0 .top).toInt,AV.int .i64 0,AV.int .i64 1],AV.agg [AV.int .i64 ((d.getD a.toNat .top).cells.getD 1 .top).toInt,AV.int .i64 0,AV.int .i64 (-1)]])) δ) (κl (b,i64.wrap (a+1),c))) δ) δ) (κr (b,c))
def xc8 (c:LA) (d:Int):StT (Nat×Int×LA) (Nat×LA):=fun (b,e,a)=>xi8 c d b e a none inL inR
def xqc:=xzA.l 49 0 [] [(3,xll.lp)] Tryz.f87 1 lk0 [5,28,29,30] [5] [(5,3,132)] (q4 (xMf 0 0 0) (qL 2) qI qI) (q1 (qB 0 3 132 xL7)) (fun (b,c,d,e,_) (a,_)=>(xc8 c d,(b,e,a),fun p=>(.leaf (.exit 2) [AV.osl 0 0 0 p.1] [bF 0 3 132 p.2]))) (0,[]) fun (_,c,d,_,_) _ (b,e,a)=>(((b,c,d,e,()),(a,())),xi8 c d b e a none)
def xkW (a b:LA):=(Iter (xbH b a (↑a.length:Int)) (0,0,[])).getD (0,[])
def xkV (a b:LA):=Iter (xc8 b (↑b.length:Int)) ((xkW a b).fst,0,(xkW a b).snd)
def xkU (a b:LA):=(xkV a b).getD (0,[])
def xgd (a b:LA):=(xkU a b).fst
def xge (a b:LA):=(xkU a b).snd
def xqd {T:Type} (a b:LA) (δ:T) (κ:LA->T):T:=br ((Iter (xbH b a (↑a.length:Int)) (0,0,[])).isSome) (br ((xkV a b).isSome) (br ((xgd a b).beq (xge a b).length&&(decide (xgd a b<4611686018427387904)&&(xge a b).all isE)) (br (decide (0+xgd a b<=(srtE (xge a b)).length)&&true) (κ (List.take (xgd a b) (List.drop 0 (srtE (xge a b))))) δ) δ) δ) δ
def xgJ (a b:LA):=xqd a b none some
def xH5:EO:=xzA.f Tryz.func87 49 0 [] [(3,xll.lp),(9,xqc.lp)] (lks (lkC xll.ok (lkC xqc.ok lkN))) (u2 (uL 2) (uL 2)) (fun (a,b,_) _=>xqd a b) (fun _ p=>AV.list 3 p) []
def xlD (a b:Bool):Bool:=((a))
def xBJ {T:Type} (a b:Bool) (δ:T) (κ:Bool->T):T:=κ (a)
def xH6:EO:=xH5.fT Tryz.func74 6 0 [] [] lk0 (fun (a,b,_)=>xBJ a b none) (u2 (sEq pBool) (sEq pBool)) (fun (a,b,_)=>xlD a b) (fun _ p=>(AV.bool p))
def xdT (a b:Bool):Bool:=(br (a) ((b)) ((false)))
def xtD {T:Type} (a b:Bool) (δ:T) (κ:Bool->T):T:=br (a) (κ (b)) (κ (false))
def xzB:EO:=xH6.fT Tryz.func57 9 0 [] [] lk0 (fun (a,b,_)=>xtD a b none) (u2 (sEq pBool) (sEq pBool)) (fun (a,b,_)=>xdT a b) (fun _ p=>(AV.bool p))
def xjG (l:LA) (i:Int):=decide (0<=i)&&decide (i<l.length)
def xo8 {T:Type} (l:LA) (e:Nat) (d b c i:Int) (a:LA) (δ:T) (κl:(Int×Int×Int×LA)->T) (κr:(Int×Int×Int×LA)->T):T:=br (decide (i<l.length)) (br (xjG l i) (br (decide (i.toNat<l.length)&&xLj (Sh.int .i64) ((l.getD i.toNat .top).cells.getD 0 .top)) (br (((l.getD i.toNat .top).cells.getD 0 .top).toInt==d) (br (xjG l i) (br (decide (i.toNat<l.length)&&xLj (Sh.int .i64) ((l.getD i.toNat .top).cells.getD 1 .top)) (br (xjG l i) (br (decide (i.toNat<l.length)&&xLj (Sh.int .i64) ((l.getD i.toNat .top).cells.getD 2 .top)) (κl (i64.wrap (b+((l.getD i.toNat .top).cells.getD 1 .top).toInt),i64.wrap (c+((l.getD i.toNat .top).cells.getD 2 .top).toInt),i64.wrap (i+1),a)) δ) δ) δ) δ) (κr (b,c,i,a))) δ) δ) (κr (b,c,i,a))
def xii (l:LA) (b:Nat) (c:Int):StT (Int×Int×Int×LA) (Int×Int×Int×LA):=fun (d,e,i,a)=>xo8 l b c d e i a none inL inR
def xgP:=xzB.l 92 0 [] [] Tryz.f56 1 lk0 [2,7,8,9,10,11,12] [2,7,8,9,10,11,12] [(8,2,50)] (q7 (xLJ 74 xL5) (qL 3) (xMf 0 0 0) qI qI qI qI) (q1 (qB 0 2 50 xL7)) (fun (_,l,a,d,e,i,c,_) (b,_)=>(xii l a c,(d,e,i,b),fun p=>(.leaf (.exit 2) [AV.func 74 [],AV.list 3 l,AV.osl 0 0 0 a,AV.int .i64 p.1,AV.int .i64 p.2.1,AV.int .i64 p.2.2.1,AV.int .i64 c] [bF 0 2 50 p.2.2.2]))) (0,0,0,[]) fun (_,l,a,_,_,_,c,_) _ (d,e,i,b)=>((((),l,a,d,e,i,c,()),(b,())),xo8 l a c d e i b none)
def xgO (a:Nat):=decide (0<=i64.wrap ((↑a:Int) - 1))&&decide (i64.wrap ((↑a:Int) - 1)<(↑a:Int))
def xmR (l:LA) (b:Nat) (d e i c:Int) (a:LA):=(Iter (xii l b c) (d,e,i,a)).getD (0,0,0,[])
def xaE (a:Nat):Nat:=0+(i64.wrap ((↑a:Int) - 1)).toNat
def xou (l:LA) (b:Nat) (d e i c:Int) (a:LA):=(xmR l b d e i c a).snd
def xbi (l:LA) (b:Nat) (d e i c:Int) (a:LA):=(xmR l b d e i c a).fst
def xbh (l:LA) (b:Nat) (d e i c:Int) (a:LA):=(xou l b d e i c a).fst
def xot (l:LA) (b:Nat) (d e i c:Int) (a:LA):=(xou l b d e i c a).snd
def xad (l:LA) (b:Nat) (d e i c:Int) (a:LA):=(xot l b d e i c a).snd
def xor (l:LA) (b:Nat) (d e i c:Int) (a:LA):=xlD (decide (xbi l b d e i c a>0)) (decide (xbh l b d e i c a>0))
def xah (l:LA) (b:Nat) (d e i c:Int) (a:LA):=(xot l b d e i c a).fst
def xgN (l:LA) (a:Nat) (d e i c:Int) (b:LA):=decide (xaE a<(xad l a d e i c b).length)
def xos (l:LA) (b:Nat) (d e i c:Int) (a:LA):=decide (xah l b d e i c a<l.length)
def xo7 {T:Type} (l:LA) (a:Nat) (d e i c:Int) (b:LA) (δ:T) (κl:(Nat×Int×Int×Int×Int×LA)->T) (κr:(Nat×LA)->T):T:=br (decide (c<1099511627776)) (br ((Iter (xii l a c) (d,e,i,b)).isSome) (br (xos l a d e i c b) (br (decide (0<=xah l a d e i c b)&&xos l a d e i c b) (br (decide ((xah l a d e i c b).toNat<l.length)&&xLj (Sh.int .i64) ((l.getD (xah l a d e i c b).toNat .top).cells.getD 0 .top)) (br (xor l a d e i c b) (br (decide ((↑a:Int)>0)) (br (xgO a) (br (xgN l a d e i c b&&xLj (Sh.int .i64) (((xad l a d e i c b).getD (xaE a) .top).cells.getD 1 .top)) (br ((((xad l a d e i c b).getD (xaE a) .top).cells.getD 1 .top).toInt==c) (br (xgO a) (br (xgN l a d e i c b) (κl (a,xbi l a d e i c b,xbh l a d e i c b,xah l a d e i c b,((l.getD (xah l a d e i c b).toNat .top).cells.getD 0 .top).toInt,(xad l a d e i c b).set (xaE a) (AV.agg (List.take 1 ((xad l a d e i c b).getD (xaE a) .top).cells++[AV.int .i64 ((l.getD (xah l a d e i c b).toNat .top).cells.getD 0 .top).toInt]++List.drop 2 ((xad l a d e i c b).getD (xaE a) .top).cells)))) δ) δ) (br (a==(xad l a d e i c b).length&&(decide ((a+1)*16<=140737488355328)&&decide (a+1<=4611686018427387904))) (κl (a+1,xbi l a d e i c b,xbh l a d e i c b,xah l a d e i c b,((l.getD (xah l a d e i c b).toNat .top).cells.getD 0 .top).toInt,xad l a d e i c b++[AV.agg [AV.int .i64 c,AV.int .i64 ((l.getD (xah l a d e i c b).toNat .top).cells.getD 0 .top).toInt]])) δ)) δ) δ) (br (a==(xad l a d e i c b).length&&(decide ((a+1)*16<=140737488355328)&&decide (a+1<=4611686018427387904))) (κl (a+1,xbi l a d e i c b,xbh l a d e i c b,xah l a d e i c b,((l.getD (xah l a d e i c b).toNat .top).cells.getD 0 .top).toInt,xad l a d e i c b++[AV.agg [AV.int .i64 c,AV.int .i64 ((l.getD (xah l a d e i c b).toNat .top).cells.getD 0 .top).toInt]])) δ)) (κl (a,xbi l a d e i c b,xbh l a d e i c b,xah l a d e i c b,((l.getD (xah l a d e i c b).toNat .top).cells.getD 0 .top).toInt,xad l a d e i c b))) δ) δ) (br (xor l a d e i c b) (br (decide ((↑a:Int)>0)) (br (xgO a) (br (xgN l a d e i c b&&xLj (Sh.int .i64) (((xad l a d e i c b).getD (xaE a) .top).cells.getD 1 .top)) (br ((((xad l a d e i c b).getD (xaE a) .top).cells.getD 1 .top).toInt==c) (br (xgO a) (br (xgN l a d e i c b) (κl (a,xbi l a d e i c b,xbh l a d e i c b,xah l a d e i c b,1099511627776,(xad l a d e i c b).set (xaE a) (AV.agg (List.take 1 ((xad l a d e i c b).getD (xaE a) .top).cells++[AV.int .i64 1099511627776]++List.drop 2 ((xad l a d e i c b).getD (xaE a) .top).cells)))) δ) δ) (br (a==(xad l a d e i c b).length&&(decide ((a+1)*16<=140737488355328)&&decide (a+1<=4611686018427387904))) (κl (a+1,xbi l a d e i c b,xbh l a d e i c b,xah l a d e i c b,1099511627776,xad l a d e i c b++[AV.agg [AV.int .i64 c,AV.int .i64 1099511627776]])) δ)) δ) δ) (br (a==(xad l a d e i c b).length&&(decide ((a+1)*16<=140737488355328)&&decide (a+1<=4611686018427387904))) (κl (a+1,xbi l a d e i c b,xbh l a d e i c b,xah l a d e i c b,1099511627776,xad l a d e i c b++[AV.agg [AV.int .i64 c,AV.int .i64 1099511627776]])) δ)) (κl (a,xbi l a d e i c b,xbh l a d e i c b,xah l a d e i c b,1099511627776,xad l a d e i c b)))) δ) (κr (a,b))
def xmC (l:LA):StT (Nat×Int×Int×Int×Int×LA) (Nat×LA):=fun (b,d,e,i,c,a)=>xo7 l b d e i c a none inL inR
def xoq:=xzB.l 92 0 [] [(6,xgP.lp)] Tryz.f56 0 (lk1 xgP.ok) [2,7,8,9,10,11,12] [8] [(8,2,50)] (q7 (xLJ 74 xL5) (qL 3) (xMf 0 0 0) qI qI qI qI) (q1 (qB 0 2 50 xL7)) (fun (_,l,b,d,e,i,c,_) (a,_)=>(xmC l,(b,d,e,i,c,a),fun p=>(.leaf (.exit 0) [AV.osl 0 0 0 p.1] [bF 0 2 50 p.2]))) (0,[]) fun (_,l,_,_,_,_,_,_) _ (b,d,e,i,c,a)=>((((),l,b,d,e,i,c,()),(a,())),xo7 l b d e i c a none)
def xq0 (a b:LA):=Iter (xmC ((xgJ a b).getD [])) (0,0,0,0,0,[])
def xqx (a b:LA):=(xq0 a b).getD (0,[])
def xqY (a b:LA):=(xqx a b).snd
def xqZ (a b:LA):=(xqx a b).fst
def xrT {T:Type} (a b:LA) (δ:T) (κ:LA->T):T:=br ((xgJ a b).isSome) (br ((xq0 a b).isSome) (br (decide (0+xqZ a b<=(xqY a b).length)&&true) (κ (List.take (xqZ a b) (List.drop 0 (xqY a b)))) δ) δ) δ
def xqf (a b:LA):=xrT a b none some
def xH7:EO:=xzB.f Tryz.func56 92 0 [] [(6,xgP.lp),(5,xoq.lp)] (lks (lkC xoq.ok (lkC xgP.ok lkN))) (u3 (uL 2) (uL 2) (sEq (xLJ (74:FuncId) xL5))) (fun (a,b,_,_) _=>xrT a b) (fun _ p=>AV.list 2 p) []
def xtE {T:Type} (l:LA) (δ:T) (κ:LA->T):T:=br ((xqf l []).isSome) (κ ((xqf l []).getD [])) δ
def xlC (l:LA):=xtE l none some
def xzC:EO:=xH7.f Tryz.func43 5 0 [] [] lk0 (u1 (uL 2)) (fun (l,_) _=>xtE l) (fun _ p=>AV.list 2 p) []
def xjF (l:LA) (i:Int):=decide (0<=i)&&decide (i<l.length)
def xo6 {T:Type} (l:LA) (e:Nat) (d b c i:Int) (a:LA) (δ:T) (κl:(Int×Int×Int×LA)->T) (κr:(Int×Int×Int×LA)->T):T:=br (decide (i<l.length)) (br (xjF l i) (br (decide (i.toNat<l.length)&&xLj (Sh.int .i64) ((l.getD i.toNat .top).cells.getD 0 .top)) (br (((l.getD i.toNat .top).cells.getD 0 .top).toInt==d) (br (xjF l i) (br (decide (i.toNat<l.length)&&xLj (Sh.int .i64) ((l.getD i.toNat .top).cells.getD 1 .top)) (br (xjF l i) (br (decide (i.toNat<l.length)&&xLj (Sh.int .i64) ((l.getD i.toNat .top).cells.getD 2 .top)) (κl (i64.wrap (b+((l.getD i.toNat .top).cells.getD 1 .top).toInt),i64.wrap (c+((l.getD i.toNat .top).cells.getD 2 .top).toInt),i64.wrap (i+1),a)) δ) δ) δ) δ) (κr (b,c,i,a))) δ) δ) (κr (b,c,i,a))
def xih (l:LA) (b:Nat) (c:Int):StT (Int×Int×Int×LA) (Int×Int×Int×LA):=fun (d,e,i,a)=>xo6 l b c d e i a none inL inR
def xgM:=xzC.l 92 0 [] [] Tryz.f56 1 lk0 [2,7,8,9,10,11,12] [2,7,8,9,10,11,12] [(8,2,50)] (q7 (xLJ 57 xL5) (qL 3) (xMf 0 0 0) qI qI qI qI) (q1 (qB 0 2 50 xL7)) (fun (_,l,a,d,e,i,c,_) (b,_)=>(xih l a c,(d,e,i,b),fun p=>(.leaf (.exit 2) [AV.func 57 [],AV.list 3 l,AV.osl 0 0 0 a,AV.int .i64 p.1,AV.int .i64 p.2.1,AV.int .i64 p.2.2.1,AV.int .i64 c] [bF 0 2 50 p.2.2.2]))) (0,0,0,[]) fun (_,l,a,_,_,_,c,_) _ (d,e,i,b)=>((((),l,a,d,e,i,c,()),(b,())),xo6 l a c d e i b none)
def xgL (a:Nat):=decide (0<=i64.wrap ((↑a:Int) - 1))&&decide (i64.wrap ((↑a:Int) - 1)<(↑a:Int))
def xmQ (l:LA) (b:Nat) (d e i c:Int) (a:LA):=(Iter (xih l b c) (d,e,i,a)).getD (0,0,0,[])
def xaD (a:Nat):Nat:=0+(i64.wrap ((↑a:Int) - 1)).toNat
def xbg (l:LA) (b:Nat) (d e i c:Int) (a:LA):=(xmQ l b d e i c a).fst
def xoo (l:LA) (b:Nat) (d e i c:Int) (a:LA):=(xmQ l b d e i c a).snd
def xon (l:LA) (b:Nat) (d e i c:Int) (a:LA):=(xoo l b d e i c a).snd
def xbf (l:LA) (b:Nat) (d e i c:Int) (a:LA):=(xoo l b d e i c a).fst
def xac (l:LA) (b:Nat) (d e i c:Int) (a:LA):=(xon l b d e i c a).snd
def xol (l:LA) (b:Nat) (d e i c:Int) (a:LA):=xdT (decide (xbg l b d e i c a>0)) (decide (xbf l b d e i c a>0))
def xag (l:LA) (b:Nat) (d e i c:Int) (a:LA):=(xon l b d e i c a).fst
def xgK (l:LA) (a:Nat) (d e i c:Int) (b:LA):=decide (xaD a<(xac l a d e i c b).length)
def xom (l:LA) (b:Nat) (d e i c:Int) (a:LA):=decide (xag l b d e i c a<l.length)
def xo5 {T:Type} (l:LA) (a:Nat) (d e i c:Int) (b:LA) (δ:T) (κl:(Nat×Int×Int×Int×Int×LA)->T) (κr:(Nat×LA)->T):T:=br (decide (c<1099511627776)) (br ((Iter (xih l a c) (d,e,i,b)).isSome) (br (xom l a d e i c b) (br (decide (0<=xag l a d e i c b)&&xom l a d e i c b) (br (decide ((xag l a d e i c b).toNat<l.length)&&xLj (Sh.int .i64) ((l.getD (xag l a d e i c b).toNat .top).cells.getD 0 .top)) (br (xol l a d e i c b) (br (decide ((↑a:Int)>0)) (br (xgL a) (br (xgK l a d e i c b&&xLj (Sh.int .i64) (((xac l a d e i c b).getD (xaD a) .top).cells.getD 1 .top)) (br ((((xac l a d e i c b).getD (xaD a) .top).cells.getD 1 .top).toInt==c) (br (xgL a) (br (xgK l a d e i c b) (κl (a,xbg l a d e i c b,xbf l a d e i c b,xag l a d e i c b,((l.getD (xag l a d e i c b).toNat .top).cells.getD 0 .top).toInt,(xac l a d e i c b).set (xaD a) (AV.agg (List.take 1 ((xac l a d e i c b).getD (xaD a) .top).cells++[AV.int .i64 ((l.getD (xag l a d e i c b).toNat .top).cells.getD 0 .top).toInt]++List.drop 2 ((xac l a d e i c b).getD (xaD a) .top).cells)))) δ) δ) (br (a==(xac l a d e i c b).length&&(decide ((a+1)*16<=140737488355328)&&decide (a+1<=4611686018427387904))) (κl (a+1,xbg l a d e i c b,xbf l a d e i c b,xag l a d e i c b,((l.getD (xag l a d e i c b).toNat .top).cells.getD 0 .top).toInt,xac l a d e i c b++[AV.agg [AV.int .i64 c,AV.int .i64 ((l.getD (xag l a d e i c b).toNat .top).cells.getD 0 .top).toInt]])) δ)) δ) δ) (br (a==(xac l a d e i c b).length&&(decide ((a+1)*16<=140737488355328)&&decide (a+1<=4611686018427387904))) (κl (a+1,xbg l a d e i c b,xbf l a d e i c b,xag l a d e i c b,((l.getD (xag l a d e i c b).toNat .top).cells.getD 0 .top).toInt,xac l a d e i c b++[AV.agg [AV.int .i64 c,AV.int .i64 ((l.getD (xag l a d e i c b).toNat .top).cells.getD 0 .top).toInt]])) δ)) (κl (a,xbg l a d e i c b,xbf l a d e i c b,xag l a d e i c b,((l.getD (xag l a d e i c b).toNat .top).cells.getD 0 .top).toInt,xac l a d e i c b))) δ) δ) (br (xol l a d e i c b) (br (decide ((↑a:Int)>0)) (br (xgL a) (br (xgK l a d e i c b&&xLj (Sh.int .i64) (((xac l a d e i c b).getD (xaD a) .top).cells.getD 1 .top)) (br ((((xac l a d e i c b).getD (xaD a) .top).cells.getD 1 .top).toInt==c) (br (xgL a) (br (xgK l a d e i c b) (κl (a,xbg l a d e i c b,xbf l a d e i c b,xag l a d e i c b,1099511627776,(xac l a d e i c b).set (xaD a) (AV.agg (List.take 1 ((xac l a d e i c b).getD (xaD a) .top).cells++[AV.int .i64 1099511627776]++List.drop 2 ((xac l a d e i c b).getD (xaD a) .top).cells)))) δ) δ) (br (a==(xac l a d e i c b).length&&(decide ((a+1)*16<=140737488355328)&&decide (a+1<=4611686018427387904))) (κl (a+1,xbg l a d e i c b,xbf l a d e i c b,xag l a d e i c b,1099511627776,xac l a d e i c b++[AV.agg [AV.int .i64 c,AV.int .i64 1099511627776]])) δ)) δ) δ) (br (a==(xac l a d e i c b).length&&(decide ((a+1)*16<=140737488355328)&&decide (a+1<=4611686018427387904))) (κl (a+1,xbg l a d e i c b,xbf l a d e i c b,xag l a d e i c b,1099511627776,xac l a d e i c b++[AV.agg [AV.int .i64 c,AV.int .i64 1099511627776]])) δ)) (κl (a,xbg l a d e i c b,xbf l a d e i c b,xag l a d e i c b,1099511627776,xac l a d e i c b)))) δ) (κr (a,b))
def xmB (l:LA):StT (Nat×Int×Int×Int×Int×LA) (Nat×LA):=fun (b,d,e,i,c,a)=>xo5 l b d e i c a none inL inR
def xok:=xzC.l 92 0 [] [(6,xgM.lp)] Tryz.f56 0 (lk1 xgM.ok) [2,7,8,9,10,11,12] [8] [(8,2,50)] (q7 (xLJ 57 xL5) (qL 3) (xMf 0 0 0) qI qI qI qI) (q1 (qB 0 2 50 xL7)) (fun (_,l,b,d,e,i,c,_) (a,_)=>(xmB l,(b,d,e,i,c,a),fun p=>(.leaf (.exit 0) [AV.osl 0 0 0 p.1] [bF 0 2 50 p.2]))) (0,[]) fun (_,l,_,_,_,_,_,_) _ (b,d,e,i,c,a)=>((((),l,b,d,e,i,c,()),(a,())),xo5 l b d e i c a none)
def xqX (a b:LA):=Iter (xmB ((xgJ a b).getD [])) (0,0,0,0,0,[])
def xqW (a b:LA):=(xqX a b).getD (0,[])
def xqU (a b:LA):=(xqW a b).snd
def xqV (a b:LA):=(xqW a b).fst
def xrS {T:Type} (a b:LA) (δ:T) (κ:LA->T):T:=br ((xgJ a b).isSome) (br ((xqX a b).isSome) (br (decide (0+xqV a b<=(xqU a b).length)&&true) (κ (List.take (xqV a b) (List.drop 0 (xqU a b)))) δ) δ) δ
def xqe (a b:LA):=xrS a b none some
def xH8:EO:=xzC.f Tryz.func56 92 0 [] [(6,xgM.lp),(5,xok.lp)] (lks (lkC xok.ok (lkC xgM.ok lkN))) (u3 (uL 2) (uL 2) (sEq (xLJ (57:FuncId) xL5))) (fun (a,b,_,_) _=>xrS a b) (fun _ p=>AV.list 2 p) []
def xlk {T:Type} (a b:LA) (δ:T) (κ:LA->T):T:=br ((xqe a b).isSome) (κ ((xqe a b).getD [])) δ
def xhw (a b:LA):=xlk a b none some
def xzD:EO:=xH8.f Tryz.func32 8 0 [] [] lk0 (u2 (uL 2) (uL 2)) (fun (a,b,_) _=>xlk a b) (fun _ p=>AV.list 2 p) []
def xek {T:Type} (h:LA) (i j:Int) (e:LA) (f:Int) (d:Nat) (c:Int) (a b g:LA) (δ:T) (κl:(Nat×Int×LA×LA×LA)->T) (κr:(Nat×LA)->T):T:=br (decide (c<f)) (br (ixI e c) (br (ixT e c 2 [Sh.int .i64,Sh.int .i64] 0) (br (decide (b.length*32<=140737488355328)&&decide (b.length<=4611686018427387904)) (br (decide (0+b.length<=b.length)&&true&&true&&true&&true) (br (rmB d a 1 40) (κl (d+1,i64.wrap (c+1),a++[AV.agg [AV.list 3 (List.take b.length (List.drop 0 b)),AV.int .i64 (gC e c 0).toInt,AV.int .i64 (gC e c 1).toInt]],b,g)) δ) δ) δ) δ) δ) (κr (d,a))
def xby (c:LA) (d e:Int) (f:LA) (g:Int):StT (Nat×Int×LA×LA×LA) (Nat×LA):=fun (b,h,a,i,j)=>xek c d e f g b h a i j none inL inR
def xdY:=xzD.l 38 0 [58] [] Tryz.f55 1 lk0 [1,5,7,11,12,13,20,21,22] [1,5,11,12,13] [(5,3,58)] (q9 (xLJ 43 xL5) (xMf 0 0 0) (xMg 1 0 0 0) (qL 2) qI qI (qL 2) qI qI) (q2 (qB 0 3 58 xL7) (qB 0 2 128 (q1 (xMh (q2 (qL 3) (qL 2)))))) (fun (_,b,_,c,d,e,f,g,h,_) (a,((i,j,_),_),_)=>(xby c d e f g,(b,h,a,i,j),fun p=>(.leaf (.exit 2) [AV.func 43 [],AV.osl 0 0 0 p.1,AV.list 2 c,AV.int .i64 d,AV.int .i64 e] [bF 0 3 58 p.2]))) (0,[]) fun (_,_,_,c,d,e,f,g,_,_) _ (b,h,a,i,j)=>((((),b,(),c,d,e,f,g,h,()),(a,((i,j,()),()),())),xek c d e f g b h a i j none)
def xgW (a:LA) (e:Int) (d:Nat) (b:Int) (c:LA):=Iter (xby a e b ((xlC (gC a b 1).toList).getD []) (↑((xlC (gC a b 1).toList).getD []).length:Int)) (d,0,c,(gC a b 0).toList,(gC a b 1).toList)
def xgV (c:LA) (d:Int) (b:Nat) (e:Int) (a:LA):=(xgW c d b e a).getD (0,[])
def xej {T:Type} (d:LA) (e:Int) (c:Nat) (b:Int) (a:LA) (δ:T) (κl:(Nat×Int×LA)->T) (κr:(Nat×LA)->T):T:=br (decide (b<e)) (br (ixI d b) (br (ixT d b 2 [Sh.list 3,Sh.list 2] 0) (br ((xlC (gC d b 1).toList).isSome) (br ((xgW d e c b a).isSome) (κl ((xgV d e c b a).fst,i64.wrap (b+1),(xgV d e c b a).snd)) δ) δ) δ) δ) (κr (c,a))
def xb2 (c:LA) (d:Int):StT (Nat×Int×LA) (Nat×LA):=fun (b,e,a)=>xej c d b e a none inL inR
def xkB:=xzD.l 38 0 [58] [(6,xdY.lp)] Tryz.f55 0 (lk1 xdY.ok) [1,5,11,12,13] [5] [(5,3,58)] (q5 (xLJ 43 xL5) (xMf 0 0 0) (qL 2) qI qI) (q1 (qB 0 3 58 xL7)) (fun (_,b,c,d,e,_) (a,_)=>(xb2 c d,(b,e,a),fun p=>(.leaf (.exit 0) [AV.osl 0 0 0 p.1] [bF 0 3 58 p.2]))) (0,[]) fun (_,_,c,d,_,_) _ (b,e,a)=>((((),b,c,d,e,()),(a,())),xej c d b e a none)
def xiM (l:LA):=Iter (xb2 ((xit l).getD []) (↑((xit l).getD []).length:Int)) (0,0,[])
def xiL (l:LA):=(xiM l).getD (0,[])
def xiJ (l:LA):=(xiL l).fst
def xiK (l:LA):=(xiL l).snd
def xje {T:Type} (l:LA) (δ:T) (κ:LA->T):T:=br ((xit l).isSome) (br ((xiM l).isSome) (br (decide (0+xiJ l<=(xiK l).length)&&true) (κ (List.take (xiJ l) (List.drop 0 (xiK l)))) δ) δ) δ
def xk0 (l:LA):=xje l none some
def xH9:EO:=xzD.f Tryz.func55 38 0 [58] [(6,xdY.lp),(3,xkB.lp)] (lks (lkC xkB.ok (lkC xdY.ok lkN))) (u2 (uL 3) (sEq (xLJ (43:FuncId) xL5))) (fun (l,_,_) _=>xje l) (fun _ p=>AV.list 3 p) []
def xm6 {T:Type} (l:LA) (δ:T) (κ:LA->T):T:=br ((xk0 l).isSome) (κ ((xk0 l).getD [])) δ
def xjd (l:LA):=xm6 l none some
def xDI:EO:=xH9.f Tryz.func31 5 0 [] [] lk0 (u1 (uL 3)) (fun (l,_) _=>xm6 l) (fun _ p=>AV.list 3 p) []
def xgC (b a:Bool):Int:=(br (b) (((-1))) (br (a) ((1)) ((0))))
def xAL {T:Type} (b a:Bool) (δ:T) (κ:Int->T):T:=br (b) (κ ((-1))) (br (a) (κ (1)) (κ (0)))
def xIa:EO:=xDI.fT Tryz.func73 7 0 [] [] lk0 (fun (b,a,_)=>xAL b a none) (u2 (sEq pBool) (sEq pBool)) (fun (b,a,_)=>xgC b a) (fun _ p=>(AV.int .i64 p))
def xf9 (a b:Int) (c:List UInt8) (d e:Int) (f:List UInt8):Int:=(br (a != d) ((xgC (decide (a<d)) (decide (a>d)))) (br (b != e) ((xgC (decide (b<e)) (decide (b>e)))) ((xgC (Op.bytesLess c f) !(Op.bytesLess c f || c==f)))))
def xvT {T:Type} (a b:Int) (c:List UInt8) (d e:Int) (f:List UInt8) (δ:T) (κ:Int->T):T:=br (a != d) (κ (xgC (decide (a<d)) (decide (a>d)))) (br (b != e) (κ (xgC (decide (b<e)) (decide (b>e)))) (κ (xgC (Op.bytesLess c f) !(Op.bytesLess c f || c==f))))
def xDJ:EO:=xIa.fT Tryz.func42 48 0 [] [] lk0 (fun ((a,b,c,_),(d,e,f,_),_)=>xvT a b c d e f none) (u2 (xMk (u3 uI uI (sEq pStr))) (xMk (u3 uI uI (sEq pStr)))) (fun ((a,b,c,_),(d,e,f,_),_)=>xf9 a b c d e f) (fun _ p=>(AV.int .i64 p))
def xcM (a b:LA) (i:Int):=xf9 (gC a i 0).toInt (gC a i 1).toInt (gC a i 2).toStr (gC b i 0).toInt (gC b i 1).toInt (gC b i 2).toStr
def xc1 {T:Type} (a b:LA) (i:Int) (δ:T) (κl:(Int)->T) (κr:(Bool×(Int)×(Unit))->T):T:=br (decide (i<a.length)) (br (decide (i<b.length)) (br (ixI a i) (br (ixT a i 3 [Sh.int .i64,Sh.int .i64,Sh.str] 0) (br (ixI b i) (br (ixT b i 3 [Sh.int .i64,Sh.int .i64,Sh.str] 0) (br (xcM a b i != 0) (κr (true,(xcM a b i),())) (κl (i64.wrap (i+1)))) δ) δ) δ) δ) (κr (false,0,()))) (κr (false,0,()))
def xaJ (a b:LA):StT (Int) (Bool×(Int)×(Unit)):=fun (i)=>xc1 a b i none inL inR
def xmN:=xDJ.l 41 0 [] [] Tryz.f17 0 lk0 [0,1,5] [0,1,4] [] (q3 (qL 3) (qL 3) qI) xL5 (fun (a,b,i,_) _=>(xaJ a b,(i),fun p=>(.node p.1 (.leaf .ret [AV.list 3 a,AV.list 3 b,AV.int .i64 p.2.1] []) (.leaf (.exit 0) [AV.list 3 a,AV.list 3 b,.top] [])))) (false,0,()) fun (a,b,_,_) _ (i)=>(((a,b,i,()),()),xc1 a b i none)
def xmi {T:Type} (a b:LA) (δ:T) (κ:Int->T):T:=br ((Iter (xaJ a b) 0).isSome) (br (((Iter (xaJ a b) 0).getD (false,0,())).fst) (κ (((Iter (xaJ a b) 0).getD (false,0,())).snd.fst)) (br (decide ((↑a.length:Int)<(↑b.length:Int))) (κ ((-1))) (br (decide ((↑a.length:Int)>(↑b.length:Int))) (κ (1)) (κ (0))))) δ
def xga (a b:LA):=xmi a b none some
def xIb:EO:=xDJ.f Tryz.func17 41 0 [] [(2,xmN.lp)] (lk1 xmN.ok) (u2 (uL 3) (uL 3)) (fun (a,b,_) _=>xmi a b) (fun _ p=>AV.int .i64 p) 0
def xe7 (a b:Int):Bool:=(br (decide (a>=0)) (br (decide (a<b)) ((decide (b<=1099511627776))) ((false))) ((false)))
def xzb {T:Type} (a b:Int) (δ:T) (κ:Bool->T):T:=br (decide (a>=0)) (br (decide (a<b)) (κ (decide (b<=1099511627776))) (κ (false))) (κ (false))
def xIc:EO:=xIb.fT Tryz.func46 18 0 [] [] lk0 (fun ((a,b,_),_)=>xzb a b none) (u1 (xMk (u2 uI uI))) (fun ((a,b,_),_)=>xe7 a b) (fun _ p=>(AV.bool p))
def xfd (a b t:Int):Bool:=(br (xe7 a b) (br (decide (a<=t)) ((decide (t<b))) ((false))) ((false)))
def xu3 {T:Type} (a b t:Int) (δ:T) (κ:Bool->T):T:=br (xe7 a b) (br (decide (a<=t)) (κ (decide (t<b))) (κ (false))) (κ (false))
def xDK:EO:=xIc.fT Tryz.func24 19 0 [] [] lk0 (fun ((a,b,_),t,_)=>xu3 a b t none) (u2 (xMk (u2 uI uI)) uI) (fun ((a,b,_),t,_)=>xfd a b t) (fun _ p=>(AV.bool p))
def xiZ {T:Type} (a b:LA) (i:Int) (δ:T) (κl:(Int)->T) (κr:(Bool×(Bool)×(Unit))->T):T:=br (decide (i<a.length)) (br (ixI a i) (br (ixT a i 2 [Sh.int .i64,Sh.int .i64] 0) (br (ixI b i) (br (ixT b i 2 [Sh.int .i64,Sh.int .i64] 0) (br (!((gC a i 0).toInt==(gC b i 0).toInt&&((gC a i 1).toInt==(gC b i 1).toInt&&true))) (κr (true,(false),())) (κl (i64.wrap (i+1)))) δ) δ) δ) δ) (κr (false,false,()))
def xbG (a b:LA):StT (Int) (Bool×(Bool)×(Unit)):=fun (i)=>xiZ a b i none inL inR
def xpM:=xDK.l 26 0 [] [] Tryz.f18 0 lk0 [0,1,5] [4] [] (q3 (qL 2) (qL 2) qI) xL5 (fun (a,b,i,_) _=>(xbG a b,(i),fun p=>(.node p.1 (.leaf .ret [AV.bool p.2.1] []) (.leaf (.exit 0) [.top] [])))) (false,false,()) fun (a,b,_,_) _ (i)=>(((a,b,i,()),()),xiZ a b i none)
def xpN {T:Type} (a b:LA) (δ:T) (κ:Bool->T):T:=br ((↑a.length:Int) != (↑b.length:Int)) (κ (false)) (br ((Iter (xbG a b) 0).isSome) (br (((Iter (xbG a b) 0).getD (false,false,())).fst) (κ (((Iter (xbG a b) 0).getD (false,false,())).snd.fst)) (κ (true))) δ)
def xsl (a b:LA):=xpN a b none some
def xId:EO:=xDK.f Tryz.func18 26 0 [] [(4,xpM.lp)] (lk1 xpM.ok) (u2 (uL 2) (uL 2)) (fun (a,b,_) _=>xpN a b) (fun _ p=>AV.bool p) false
def xDh:Int×Int×List UInt8:=((0,0,[]))
def xAK {T:Type} (δ:T) (κ:Int×Int×List UInt8->T):T:=κ (0,0,[])
def xGZ:EO:=xId.fT Tryz.func101 2 0 [] [] lk0 (fun _=>xAK none) xL6 (fun _=>xDh) (fun _ p=>(AV.agg [AV.int .i64 p.1,AV.int .i64 p.2.1,AV.str p.2.2]))
def xvU {T:Type} (a:LA) (i:Int) (δ:T) (κ:Int×Int×List UInt8->T):T:=br (decide (i<0)) (κ (0,0,[])) (br (decide (i>=a.length)) (κ (0,0,[])) (br (ixI a i) (br (ixT a i 3 [Sh.int .i64,Sh.int .i64,Sh.str] 0) (κ ((gC a i 0).toInt,(gC a i 1).toInt,(gC a i 2).toStr)) δ) δ))
def xlc (a:LA) (i:Int):=xvU a i none some
def xBV:EO:=xGZ.f Tryz.func75 18 0 [] [] lk0 (u2 (uL 3) uI) (fun (a,i,_) _=>xvU a i) (fun _ p=>AV.agg [AV.int .i64 p.1,AV.int .i64 p.2.1,AV.str p.2.2]) (0,0,[])
def xjz (o:LA) (i:Int):=ixI o i
def xoe (a o:LA) (i:Int):=(xlc a (gC o i 0).toInt).getD (0,0,[])
def xof (b o:LA) (i:Int):=(xlc b (gC o i 0).toInt).getD (0,0,[])
def xoc (b o:LA) (i:Int):=(xof b o i).snd
def xod (a o:LA) (i:Int):=(xoe a o i).snd
def xob (a b o:LA) (i:Int):=xf9 (xoe a o i).fst (xod a o i).fst (xod a o i).snd (xof b o i).fst (xoc b o i).fst (xoc b o i).snd
def xkl {T:Type} (a b o:LA) (i:Int) (δ:T) (κl:(Int)->T) (κr:(Bool×(Bool)×(Unit))->T):T:=br (decide (i<o.length)) (br (xjz o i) (br (ixS o i (Sh.int .i64) 0) (br ((xlc a (gC o i 0).toInt).isSome) (br (xjz o i) (br (ixS o i (Sh.int .i64) 0) (br ((xlc b (gC o i 0).toInt).isSome) (br (xob a b o i != 0) (br (xjz o i) (br (decide (i.toNat<o.length)&&xLj Sh.bool (gC o i 1)) (κr (true,(!decide (xob a b o i<0)==(gC o i 1).toBool),())) δ) δ) (κl (i64.wrap (i+1)))) δ) δ) δ) δ) δ) δ) (κr (false,false,()))
def xcm (a b o:LA):StT (Int) (Bool×(Bool)×(Unit)):=fun (i)=>xkl a b o i none inL inR
def xoa:=xBV.l 44 0 [] [] Tryz.f125 0 lk0 [0,1,2,7] [0,1,6] [] (q4 (qL 3) (qL 3) (qL 2) qI) xL5 (fun (a,b,o,i,_) _=>(xcm a b o,(i),fun p=>(.node p.1 (.leaf .ret [AV.list 3 a,AV.list 3 b,AV.bool p.2.1] []) (.leaf (.exit 0) [AV.list 3 a,AV.list 3 b,.top] [])))) (false,false,()) fun (a,b,o,_,_) _ (i)=>(((a,b,o,i,()),()),xkl a b o i none)
def xne {T:Type} (a b o:LA) (δ:T) (κ:Bool->T):T:=br ((Iter (xcm a b o) 0).isSome) (br (((Iter (xcm a b o) 0).getD (false,false,())).fst) (κ (((Iter (xcm a b o) 0).getD (false,false,())).snd.fst)) (br ((xga a b).isSome) (κ (decide ((xga a b).getD 0<0))) δ)) δ
def xmj (a b o:LA):=xne a b o none some
def xBW:EO:=xBV.f Tryz.func125 44 0 [] [(2,xoa.lp)] (lk1 xoa.ok) (u3 (uL 3) (uL 3) (uL 2)) (fun (a,b,o,_) _=>xne a b o) (fun _ p=>AV.bool p) false
def xb7 (a:LA) (i:Int):=decide (i.toNat<a.length)&&xLj (Sh.list 3) (gC a i 0)
def xb8 (b:LA) (k:Int):=decide (k.toNat<b.length)&&xLj (Sh.list 3) (gC b k 0)
def xb9 (a:LA) (i:Int):=ixI a i
def xca (b:LA) (k:Int):=ixI b k
def xbT {T:Type} (b:LA) (c:Nat) (i k:Int) (a:LA) (δ:T) (κl:(Nat×Int×Int×LA)->T):T:=br (xca b k) (br (xb8 b k) (br (rmB c a 1 24) (κl (c+1,i,i64.wrap (k+1),a++[AV.list 3 (gC b k 0).toList])) δ) δ) δ
def xbU {T:Type} (a:LA) (c:Nat) (i k:Int) (b:LA) (δ:T) (κl:(Nat×Int×Int×LA)->T):T:=br (xb9 a i) (br (xb7 a i) (br (rmB c b 1 24) (κl (c+1,i64.wrap (i+1),k,b++[AV.list 3 (gC a i 0).toList])) δ) δ) δ
def xbS {T:Type} (a b o:LA) (d:Nat) (i k:Int) (c:LA) (δ:T) (κl:(Nat×Int×Int×LA)->T):T:=br (i==(↑a.length:Int)) (xbT b d i k c δ κl) (br (decide (k<b.length)) (br (xca b k) (br (xb8 b k) (br (xb9 a i) (br (xb7 a i) (br ((xmj (gC b k 0).toList (gC a i 0).toList o).isSome) (br ((xmj (gC b k 0).toList (gC a i 0).toList o).getD false) (xbT b d i k c δ κl) (xbU a d i k c δ κl)) δ) δ) δ) δ) δ) (xbU a d i k c δ κl))
def xcB {T:Type} (a b o:LA) (d:Nat) (i k:Int) (c:LA) (δ:T) (κl:(Nat×Int×Int×LA)->T) (κr:(Nat×LA)->T):T:=br (decide (i<a.length)) (xbS a b o d i k c δ κl) (br (decide (k<b.length)) (xbS a b o d i k c δ κl) (κr (d,c)))
def xaR (a b o:LA):StT (Nat×Int×Int×LA) (Nat×LA):=fun (d,i,k,c)=>xcB a b o d i k c none inL inR
def xog:=xBW.l 62 0 [] [] Tryz.f100 0 lk0 [0,1,2,7,8,9] [7] [(7,1,34)] (q6 (qL 1) (qL 1) (qL 2) (xMf 0 0 0) qI qI) (q1 (qB 0 1 34 xL7)) (fun (a,b,o,d,i,k,_) (c,_)=>(xaR a b o,(d,i,k,c),fun p=>(.leaf (.exit 0) [AV.osl 0 0 0 p.1] [bF 0 1 34 p.2]))) (0,[]) fun (a,b,o,_,_,_,_) _ (d,i,k,c)=>(((a,b,o,d,i,k,()),(c,())),xcB a b o d i k c none)
def xmn (a b o:LA):=Iter (xaR a b o) (0,0,0,[])
def xmm (a b o:LA):=(xmn a b o).getD (0,[])
def xmk (a b o:LA):=(xmm a b o).fst
def xml (a b o:LA):=(xmm a b o).snd
def xnf {T:Type} (a b o:LA) (δ:T) (κ:LA->T):T:=br ((xmn a b o).isSome) (br (decide (0+xmk a b o<=(xml a b o).length)&&true) (κ (List.take (xmk a b o) (List.drop 0 (xml a b o)))) δ) δ
def xpY (a b o:LA):=xnf a b o none some
def xtN:EO:=xBW.f Tryz.func100 62 0 [] [(3,xog.lp)] (lk1 xog.ok) (u3 (uL 1) (uL 1) (uL 2)) (fun (a,b,o,_) _=>xnf a b o) (fun _ p=>AV.list 1 p) []
def xle (R:LA->LA->Option (LA)):LA->Option (Bool×AV):=ocOf (xL4 (xMj 1 xL7) (xL4 (xMj 2 xL7) xL6)) fun (l,(o,_))=>((R l o).isSome,AV.list 1 ((R l o).getD []))
def xg8 (R:LA->LA->Option (LA)):Prop:=OcOk P0 xL2 72 (xle R)
def xff (R:LA->LA->Option (LA)):Env:=(xtN.E.with 72 (xle R)).fn 34 0 (lsOf []) (xLI [])
theorem xt2 (R:LA->LA->Option (LA)) (a:xg8 R):xLl P0 (xL2.at 0) (xff R):=(xtN.ok.with a).fn
theorem xsY (R:LA->LA->Option (LA)) (a:xg8 R):LoOk P0 (xL2.at (xff R).pin) (xff R) (Tryz.f72.body.getD .skip):=xhW (by kernel_rfl)
def xhj (l:LA):=decide (0<=i64.wrap ((↑l.length:Int).tdiv 2))&&decide (i64.wrap ((↑l.length:Int).tdiv 2)<=(↑l.length:Int))
def xdM (l:LA):Nat:=0+((l.getD 0 .top).cells.getD 0 .top).toList.length
def xhk (R:LA->LA->Option (LA)) (l o:LA):Option (LA):=R (List.take (l.length - (i64.wrap ((↑l.length:Int).tdiv 2)).toNat) (List.drop (i64.wrap ((↑l.length:Int).tdiv 2)).toNat l)) o
def xhi (R:LA->LA->Option (LA)) (l o:LA):Option (LA):=xpY ((R (List.take ((i64.wrap ((↑l.length:Int).tdiv 2)).toNat - 0) (List.drop 0 l)) o).getD []) ((xhk R l o).getD []) o
def xdy {T:Type} (R:LA->LA->Option (LA)) (l o:LA) (δ:T) (κ:LA->T):T:=br ((↑l.length:Int)==0) (κ ([])) (br ((↑l.length:Int)==1) (br (decide (0<(↑l.length:Int))) (br (decide (0<l.length)&&xLj (Sh.list 3) ((l.getD 0 .top).cells.getD 0 .top)) (br (decide (xdM l*32<=140737488355328)&&decide (xdM l<=4611686018427387904)) (br (decide (0+xdM l<=([]++((l.getD 0 .top).cells.getD 0 .top).toList).length)&&true&&true&&true) (κ ([AV.list 3 (List.take (xdM l) (List.drop 0 ([]++((l.getD 0 .top).cells.getD 0 .top).toList)))])) δ) δ) δ) δ) (br (xhj l&&true) (br ((R (List.take ((i64.wrap ((↑l.length:Int).tdiv 2)).toNat - 0) (List.drop 0 l)) o).isSome) (br (xhj l) (br ((xhk R l o).isSome) (br ((xhi R l o).isSome) (κ ((xhi R l o).getD [])) δ) δ) δ) δ) δ))
def xbC (R:LA->LA->Option (LA)) (l o:LA):=xdy R l o none some
theorem xzf (R:LA->LA->Option (LA)) (l o:LA):Enc (fun (p:LA)=>((AV.list 1 p):AV)) (xbC R l o) (XF P0 (xff R) Tryz.f72 (Tryz.f72.body.getD .skip) [AV.list 1 l,AV.list 2 o]):=by
 have h:XF P0 (xff R) Tryz.f72 (Tryz.f72.body.getD .skip) [AV.list 1 l,AV.list 2 o]=xdy R l o none (fun (p:LA)=>some ((AV.list 1 p):AV)):=by kernel_rfl
 rw [h];unfold xbC xdy;repeat' (first|refine Enc.br ?_ ?_|exact Enc.none|exact Enc.some rfl)
def xze (R:LA->LA->Option (LA)):LA->Option (Bool×AV):=ocOf (xL4 (xMj 1 xL7) (xL4 (xMj 2 xL7) xL6)) fun (l,(o,_))=>((xbC R l o).isSome,(AV.list 1 ((xbC R l o).getD [])))
theorem xzd (R:LA->LA->Option (LA)) (a:xg8 R):OcOk P0 xL2 72 (xze R):=xhh fun e g f=>by
 obtain ⟨l,⟨o,_⟩⟩:=e;obtain ⟨b,c⟩:=Prod.mk.inj f;refine xjq (p:=(xff R).pin) (xlu xLu (xLv P0 _) rfl (xt2 R a) Tryz.func72 rfl (by kernel_rfl) (xsY R a) ((xzf R _ _ _ (xa6 (d:=[]) b)).trans ?_))
 exact congrArg some c
def xbw:Nat->LA->LA->Option (LA)
 | 0=>fun _ _=>none
 | fu_+1=>fun l o=>xbC (xbw fu_) l o
theorem xpU:∀ n,xg8 (xbw n)
 | 0=>xhh fun _ _ h=>absurd (Prod.mk.inj h).1 Bool.false_ne_true
 | fu_+1=>fun a r h=>xzd (xbw fu_) (xpU fu_) a r h
def xBX:Env:=xtN.E.with 72 (xle (xbw 1000))
theorem xCw:xLl P0 xL2 xBX:=xtN.ok.with (xpU _)
def xCv:EO:=EO.mk xBX xCw
def xpX {T:Type} (l:LA) (δ:T) (κ:LA->T):T:=br ((xbw 1000 l []).isSome) (κ ((xbw 1000 l []).getD [])) δ
def xsm (l:LA):=xpX l none some
def xrH:EO:=xCv.f Tryz.func41 5 0 [] [] lk0 (u1 (uL 1)) (fun (l,_) _=>xpX l) (fun _ p=>AV.list 1 p) []
def xcR (k:Nat) (a:LA):=(List.take ((i64.wrap ((↑k:Int) - 1)).toNat - 0) (List.drop 0 a)).length
def xkN (k:Nat) (a:LA):=decide (0+(i64.wrap ((↑k:Int) - 1)).toNat<a.length)
def xiy (k:Nat) (a:LA):=((a.getD (0+(i64.wrap ((↑k:Int) - 1)).toNat) .top).cells.getD 1 .top).toInt
def xkO (k:Nat):=decide (0<=i64.wrap ((↑k:Int) - 1))
def xiw (k:Nat):=xkO k&&decide (i64.wrap ((↑k:Int) - 1)<(↑k:Int))
def xkM (k:Nat) (a:LA):=xkN k a&&xLj (Sh.int .i64) ((a.getD (0+(i64.wrap ((↑k:Int) - 1)).toNat) .top).cells.getD 1 .top)
def xjx {T:Type} (k:Nat) (a b:Int) (c:LA) (δ:T) (κ:Bool×(Nat×LA×LA)×(Nat×LA)->T):T:=br (rmB k c 1 16) (κ (false,(0,[],[]),(k+1,c++[AV.agg [AV.int .i64 a,AV.int .i64 b]]))) δ
def xpP {T:Type} (k:Nat) (b c:Int) (a:LA) (δ:T) (κ:Bool×(Nat×LA×LA)×(Nat×LA)->T):T:=br (decide ((↑k:Int)>0)) (br (xiw k) (br (xkM k a) (br (decide (xiy k a>=b)) (br (xkO k&&decide (i64.wrap ((↑k:Int) - 1)<=(↑k:Int))&&true) (br (decide (0+((i64.wrap ((↑k:Int) - 1)).toNat - 0)<=a.length)&&(decide (xcR k a*16<=140737488355328)&&decide (xcR k a<=4611686018427387904))) (br (xiw k) (br (xkN k a&&xLj (Sh.int .i64) ((a.getD (0+(i64.wrap ((↑k:Int) - 1)).toNat) .top).cells.getD 0 .top)) (br (xiw k) (br (xkM k a) (br (xcR k a==xcR k a&&(decide ((xcR k a+1)*16<=140737488355328)&&decide (xcR k a+1<=4611686018427387904))) (κ (true,(xcR k a+1,a,List.take ((i64.wrap ((↑k:Int) - 1)).toNat - 0) (List.drop 0 a)++[AV.agg [AV.int .i64 ((a.getD (0+(i64.wrap ((↑k:Int) - 1)).toNat) .top).cells.getD 0 .top).toInt,AV.int .i64 (if c>xiy k a then c else xiy k a)]]),(0,[]))) δ) δ) δ) δ) δ) δ) δ) (xjx k b c a δ κ)) δ) δ) (xjx k b c a δ κ)
def xmh (k:Nat) (a b:Int) (c:LA):=xpP k a b c none some
def xeF {T:Type} (l:LA) (n:Int) (b:Nat) (i:Int) (a:LA) (δ:T) (κl:(Nat×Int×LA)->T) (κr:(Nat×Int×LA)->T):T:=br (decide (i<l.length)) (br (ixI l i) (br (ixS l i (Sh.int .i64) 0) (br (decide ((gC l i 0).toInt<n)) (br (ixI l i) (br (ixS l i (Sh.int .i64) 0) (br (rmB b a 1 8) (κl (b+1,i64.wrap (i+1),a++[AV.int .i64 (gC l i 0).toInt])) δ) δ) δ) (κr (b,i,a))) δ) δ) (κr (b,i,a))
def xbM (l:LA) (n:Int):StT (Nat×Int×LA) (Nat×Int×LA):=fun (b,i,a)=>xeF l n b i a none inL inR
def xjy:=xrH.l 58 0 [] [] Tryz.f47 0 lk0 [0,1,5,6] [0,1,5,6] [(5,1,3)] (q4 (qL 1) qI (xMf 0 0 0) qI) (q1 (qB 0 1 3 xL7)) (fun (l,n,b,i,_) (a,_)=>(xbM l n,(b,i,a),fun p=>(.leaf (.exit 0) [AV.list 1 l,AV.int .i64 n,AV.osl 0 0 0 p.1,AV.int .i64 p.2.1] [bF 0 1 3 p.2.2]))) (0,0,[]) fun (l,n,_,_,_) _ (b,i,a)=>(((l,n,b,i,()),(a,())),xeF l n b i a none)
def xg7 {T:Type} (l:LA) (b:Nat) (i:Int) (a:LA) (δ:T) (κl:(Nat×Int×LA)->T) (κr:(Nat×LA)->T):T:=br (decide (i<l.length)) (br (ixI l i) (br (ixS l i (Sh.int .i64) 0) (br (rmB b a 1 8) (κl (b+1,i64.wrap (i+1),a++[AV.int .i64 (gC l i 0).toInt])) δ) δ) δ) (κr (b,a))
def xbN (l:LA):StT (Nat×Int×LA) (Nat×LA):=fun (b,i,a)=>xg7 l b i a none inL inR
def xn9:=xrH.l 58 0 [] [(3,xjy.lp)] Tryz.f47 1 lk0 [0,5,6] [5] [(5,1,3)] (q3 (qL 1) (xMf 0 0 0) qI) (q1 (qB 0 1 3 xL7)) (fun (l,b,i,_) (a,_)=>(xbN l,(b,i,a),fun p=>(.leaf (.exit 2) [AV.osl 0 0 0 p.1] [bF 0 1 3 p.2]))) (0,[]) fun (l,_,_,_) _ (b,i,a)=>(((l,b,i,()),(a,())),xg7 l b i a none)
def xfD (l:LA) (n:Int):=(Iter (xbM l n) (0,0,[])).getD (0,0,[])
def xdL (l:LA) (n:Int):=(xfD l n).fst
def xfC (l:LA) (n:Int):=(xfD l n).snd
def xbb (l:LA) (n:Int):=(xfC l n).fst
def xdJ (l:LA) (n:Int):=xdL l n+1
def xdK (l:LA) (n:Int):=(xfC l n).snd
def xgw (l:LA) (n:Int):=Iter (xbN l) (xdJ l n,xbb l n,xdK l n++[AV.int .i64 n])
def xgB (l:LA) (n:Int):=Iter (xbN l) (xdL l n,xbb l n,xdK l n)
def xhX (l:LA) (n:Int):=xdL l n==(xdK l n).length
def xgv (l:LA) (n:Int):=(xgw l n).getD (0,[])
def xix (l:LA) (n:Int):=(xgw l n).isSome
def xgA (l:LA) (n:Int):=(xgB l n).getD (0,[])
def xgt (l:LA) (n:Int):=(xgv l n).fst
def xgu (l:LA) (n:Int):=(xgv l n).snd
def xgy (l:LA) (n:Int):=(xgA l n).snd
def xgz (l:LA) (n:Int):=(xgA l n).fst
def xlb {T:Type} (l:LA) (n:Int) (δ:T) (κ:LA->T):T:=br (xhX l n&&(decide (xdJ l n*8<=140737488355328)&&decide (xdJ l n<=4611686018427387904))) (br (xix l n) (br (decide (0+xgt l n<=(xgu l n).length)&&true) (κ (List.take (xgt l n) (List.drop 0 (xgu l n)))) δ) δ) δ
def xnd {T:Type} (l:LA) (n:Int) (δ:T) (κ:LA->T):T:=br ((Iter (xbM l n) (0,0,[])).isSome) (br (xbb l n==(↑l.length:Int)) (xlb l n δ κ) (br (decide (0<=xbb l n)&&decide (xbb l n<l.length)) (br (decide ((xbb l n).toNat<l.length)&&xLj (Sh.int .i64) ((l.getD (xbb l n).toNat .top).cells.getD 0 .top)) (br (decide (((l.getD (xbb l n).toNat .top).cells.getD 0 .top).toInt>n)) (xlb l n δ κ) (br ((xgB l n).isSome) (br (decide (0+xgz l n<=(xgy l n).length)&&true) (κ (List.take (xgz l n) (List.drop 0 (xgy l n)))) δ) δ)) δ) δ)) δ
def xbz (l:LA) (n:Int):=xnd l n none some
def xDL:EO:=xrH.f Tryz.func47 58 0 [] [(3,xjy.lp),(8,xn9.lp)] (lks (lkC xjy.ok (lkC xn9.ok lkN))) (u2 (uL 1) uI) (fun (l,n,_) _=>xnd l n) (fun _ p=>AV.list 1 p) []
def xiz {T:Type} (k:Nat) (a n:Int) (b:LA) (δ:T) (κ:Bool×(Nat×LA)×(Nat×LA)->T):T:=br (rmB k b 1 16) (κ (false,(0,[]),(k+1,b++[AV.agg [AV.int .i64 a,AV.int .i64 n]]))) δ
def xnV {T:Type} (k:Nat) (a n:Int) (b:LA) (δ:T) (κ:Bool×(Nat×LA)×(Nat×LA)->T):T:=br (decide ((↑k:Int)>0)) (br (decide (0<=i64.wrap ((↑k:Int) - 1))&&decide (i64.wrap ((↑k:Int) - 1)<(↑k:Int))) (br (decide (0+(i64.wrap ((↑k:Int) - 1)).toNat<b.length)&&xLj (Sh.int .i64) ((b.getD (0+(i64.wrap ((↑k:Int) - 1)).toNat) .top).cells.getD 1 .top)) (br (((b.getD (0+(i64.wrap ((↑k:Int) - 1)).toNat) .top).cells.getD 1 .top).toInt==n) (κ (true,(k,b),(0,[]))) (xiz k a n b δ κ)) δ) δ) (xiz k a n b δ κ)
def xqN (k:Nat) (a n:Int) (b:LA):=xnV k a n b none some
def xj2 {T:Type} (l:LA) (i:Int) (δ:T) (κl:(Int)->T) (κr:(Bool×(Bool)×(Unit))->T):T:=br (decide (i<l.length)) (br (ixI l i) (br (ixS l i (Sh.list 3) 0) (br (decide ((↑(gC l i 0).toList.length:Int)>60)) (κr (true,(false),())) (κl (i64.wrap (i+1)))) δ) δ) (κr (false,false,()))
def xcD (l:LA):StT (Int) (Bool×(Bool)×(Unit)):=fun (i)=>xj2 l i none inL inR
def xqR:=xDL.l 23 0 [] [] Tryz.f27 0 lk0 [0,5] [4] [] (q2 (qL 3) qI) xL5 (fun (l,i,_) _=>(xcD l,(i),fun p=>(.node p.1 (.leaf .ret [AV.bool p.2.1] []) (.leaf (.exit 0) [.top] [])))) (false,false,()) fun (l,_,_) _ (i)=>(((l,i,()),()),xj2 l i none)
def xrq {T:Type} (l:LA) (a:Int) (δ:T) (κ:Bool->T):T:=br (decide ((↑l.length:Int)>a)) (κ (false)) (br ((Iter (xcD l) 0).isSome) (br (((Iter (xcD l) 0).getD (false,false,())).fst) (κ (((Iter (xcD l) 0).getD (false,false,())).snd.fst)) (κ (true))) δ)
def xqQ (l:LA) (a:Int):=xrq l a none some
def xDM:EO:=xDL.f Tryz.func27 23 0 [] [(4,xqR.lp)] (lk1 xqR.ok) (u2 (uL 3) uI) (fun (l,a,_) _=>xrq l a) (fun _ p=>AV.bool p) false
def xc7 (l:LA) (i:Int):=ixI l i
def xhc {T:Type} (l a:LA) (i:Int) (δ:T) (κl:(LA×Int)->T) (κr:(LA)->T):T:=br (decide (i<l.length)) (br (xc7 l i) (br (ixT l i 3 [Sh.int .i64,Sh.int .i64] 1) (br (xe7 (gC l i 1).toInt (gC l i 2).toInt) (br (xc7 l i) (br (ixS l i (Sh.int .i64) 1) (br ((xbz a (gC l i 1).toInt).isSome) (br (xc7 l i) (br (ixS l i (Sh.int .i64) 2) (br (decide ((gC l i 2).toInt<1099511627776)) (br (xc7 l i) (br (ixS l i (Sh.int .i64) 2) (br ((xbz ((xbz a (gC l i 1).toInt).getD []) (gC l i 2).toInt).isSome) (κl ((xbz ((xbz a (gC l i 1).toInt).getD []) (gC l i 2).toInt).getD [],i64.wrap (i+1))) δ) δ) δ) (κl ((xbz a (gC l i 1).toInt).getD [],i64.wrap (i+1)))) δ) δ) δ) δ) δ) (κl (a,i64.wrap (i+1)))) δ) δ) (κr (a))
def xcn (l:LA):StT (LA×Int) (LA):=fun (a,i)=>xhc l a i none inL inR
def xoi:=xDM.l 42 0 [] [] Tryz.f21 0 lk0 [0,3,4] [3] [(3,1,1073741824)] (q3 (qL 3) (qL 1) qI) xL5 (fun (l,a,i,_) _=>(xcn l,(a,i),fun p=>(.leaf (.exit 0) [AV.list 1 p] []))) [] fun (l,_,_,_) _ (a,i)=>(((l,a,i,()),()),xhc l a i none)
def xnz {T:Type} (l:LA) (δ:T) (κ:LA->T):T:=br ((Iter (xcn l) ([AV.int .i64 0],0)).isSome) (κ ((Iter (xcn l) ([AV.int .i64 0],0)).getD [])) δ
def xmy (l:LA):=xnz l none some
def xDN:EO:=xDM.f Tryz.func21 42 0 [] [(3,xoi.lp)] (lk1 xoi.ok) (u1 (uL 3)) (fun (l,_) _=>xnz l) (fun _ p=>AV.list 1 p) []
def xkS {T:Type} (l:LA) (t:Int) (b:Nat) (i:Int) (a:LA) (δ:T) (κl:(Nat×Int×LA)->T) (κr:(Nat×LA)->T):T:=br (decide (i<l.length)) (br (ixI l i) (br (ixT l i 3 [Sh.int .i64,Sh.int .i64] 1) (br (xfd (gC l i 1).toInt (gC l i 2).toInt t) (br (ixI l i) (br (ixS l i (Sh.list 3) 0) (br (rmB b a 1 24) (κl (b+1,i64.wrap (i+1),a++[AV.list 3 (gC l i 0).toList])) δ) δ) δ) (κl (b,i64.wrap (i+1),a))) δ) δ) (κr (b,a))
def xdS (l:LA) (t:Int):StT (Nat×Int×LA) (Nat×LA):=fun (b,i,a)=>xkS l t b i a none inL inR
def xrP:=xDN.l 30 0 [] [] Tryz.f23 0 lk0 [0,1,5,6] [5] [(5,1,34)] (q4 (qL 3) qI (xMf 0 0 0) qI) (q1 (qB 0 1 34 xL7)) (fun (l,t,b,i,_) (a,_)=>(xdS l t,(b,i,a),fun p=>(.leaf (.exit 0) [AV.osl 0 0 0 p.1] [bF 0 1 34 p.2]))) (0,[]) fun (l,t,_,_,_) _ (b,i,a)=>(((l,t,b,i,()),(a,())),xkS l t b i a none)
def xrp (l:LA) (t:Int):=(Iter (xdS l t) (0,0,[])).getD (0,[])
def xrn (l:LA) (t:Int):=(xrp l t).fst
def xro (l:LA) (t:Int):=(xrp l t).snd
def xrm (l:LA) (t:Int):=xsm (List.take (xrn l t) (List.drop 0 (xro l t)))
def xsq {T:Type} (l:LA) (t:Int) (δ:T) (κ:LA->T):T:=br ((Iter (xdS l t) (0,0,[])).isSome) (br (decide (0+xrn l t<=(xro l t).length)&&true) (br ((xrm l t).isSome) (κ ((xrm l t).getD [])) δ) δ) δ
def xlj (l:LA) (t:Int):=xsq l t none some
def xIe:EO:=xDN.f Tryz.func23 30 0 [] [(3,xrP.lp)] (lk1 xrP.ok) (u2 (uL 3) uI) (fun (l,t,_) _=>xsq l t) (fun _ p=>AV.list 1 p) []
def xDB:Int×Int×List UInt8:=((0,0,[]))
def xA0 {T:Type} (δ:T) (κ:Int×Int×List UInt8->T):T:=κ (0,0,[])
def xHX:EO:=xzu.fT Tryz.func119 2 0 [] [] lk0 (fun _=>xA0 none) xL6 (fun _=>xDB) (fun _ p=>(AV.agg [AV.int .i64 p.1,AV.int .i64 p.2.1,AV.str p.2.2]))
def xsC {T:Type} (a:LA) (i:Int) (δ:T) (κ:Int×Int×List UInt8->T):T:=br (decide (i<0)) (κ (0,0,[])) (br (decide (i>=a.length)) (κ (0,0,[])) (br (ixI a i) (br (ixT a i 3 [Sh.int .i64,Sh.int .i64,Sh.str] 0) (κ ((gC a i 0).toInt,(gC a i 1).toInt,(gC a i 2).toStr)) δ) δ))
def xsB (a:LA) (i:Int):=xsC a i none some
def xDG:EO:=xHX.f Tryz.func90 18 0 [] [] lk0 (u2 (uL 3) uI) (fun (a,i,_) _=>xsC a i) (fun _ p=>AV.agg [AV.int .i64 p.1,AV.int .i64 p.2.1,AV.str p.2.2]) (0,0,[])
def xim (a b:LA) (c:Int):=(xsB a (gC b c 0).toInt).getD (0,0,[])
def xil (a b:LA) (c:Int):=(xim a b c).snd
def xi9 {T:Type} (e c:LA) (f:Int) (d:Nat) (a:Int) (b:LA) (δ:T) (κl:(Nat×Int×LA)->T) (κr:(Nat×LA)->T):T:=br (decide (a<f)) (br (ixI c a) (br (ixS c a (Sh.int .i64) 0) (br ((xsB e (gC c a 0).toInt).isSome) (br (rmB d b 1 32) (κl (d+1,i64.wrap (a+1),b++[AV.agg [AV.int .i64 (xim e c a).fst,AV.int .i64 (xil e c a).fst,AV.str (xil e c a).snd]])) δ) δ) δ) δ) (κr (d,b))
def xc9 (c d:LA) (e:Int):StT (Nat×Int×LA) (Nat×LA):=fun (b,f,a)=>xi9 c d e b f a none inL inR
def xqm:=xDG.l 25 0 [] [] Tryz.f62 0 lk0 [0,5,11,12,13] [5] [(5,3,64)] (q5 (qL 3) (xMf 0 0 0) (qL 1) qI qI) (q1 (qB 0 3 64 xL7)) (fun (c,b,d,e,f,_) (a,_)=>(xc9 c d e,(b,f,a),fun p=>(.leaf (.exit 0) [AV.osl 0 0 0 p.1] [bF 0 3 64 p.2]))) (0,[]) fun (c,_,d,e,_,_) _ (b,f,a)=>(((c,b,d,e,f,()),(a,())),xi9 c d e b f a none)
def xoZ (a l:LA):=(Iter (xc9 a l (↑l.length:Int)) (0,0,[])).getD (0,[])
def xoX (a l:LA):=(xoZ a l).fst
def xoY (a l:LA):=(xoZ a l).snd
def xqn {T:Type} (a l:LA) (δ:T) (κ:LA->T):T:=br (decide (32*(↑l.length:Int)<=281474976710656)&&decide ((↑l.length:Int)<=4611686018427387904)) (br ((Iter (xc9 a l (↑l.length:Int)) (0,0,[])).isSome) (br (decide (0+xoX a l<=(xoY a l).length)&&true) (κ (List.take (xoX a l) (List.drop 0 (xoY a l)))) δ) δ) δ
def xpp (a l:LA):=xqn a l none some
def xHY:EO:=xDG.f Tryz.func62 25 0 [] [(3,xqm.lp)] (lk1 xqm.ok) (u2 (uL 3) (uL 1)) (fun (a,l,_) _=>xqn a l) (fun _ p=>AV.list 3 p) []
def xqa {T:Type} (f:List UInt8) (c a d e b:LA) (δ:T) (κ:LA->T):T:=br ((xpp b a).isSome) (κ ((xpp b a).getD [])) δ
def xdq (e:List UInt8) (b a c d f:LA):=xqa e b a c d f none some
def xAT:LA->Option (Bool×AV):=fnO (u2 (xMk (u5 (sEq pStr) (uL 3) (uL 1) (uL 2) (uL 7))) (uL 3)) (fun ((e,b,a,c,d,_),f,_) _=>xqa e b a c d f) (fun _ p=>AV.list 3 p) []
theorem xAS:OcOk P0 xL2 34 xAT:=fnC xHY.ok Tryz.func34 9 0 [] [] lk0
def xeW {T:Type} (a:List UInt8) (i:Int) (δ:T) (κl:(Int)->T) (κr:(Bool×(Bool)×(Unit))->T):T:=br (decide (i<a.length)) (br (decide (0<=i)&&decide (i<a.length)) (br (decide ((↑(a.getD i.toNat (0:UInt8)).toNat:Int)<32)) (κr (true,(false),())) (br (decide (0<=i)&&decide (i<a.length)) (br (decide ((↑(a.getD i.toNat (0:UInt8)).toNat:Int)>126)) (κr (true,(false),())) (κl (i64.wrap (i+1)))) δ)) δ) (κr (false,false,()))
def xa5 (a:List UInt8):StT (Int) (Bool×(Bool)×(Unit)):=fun (i)=>xeW a i none inL inR
def xly:=xrH.l 20 0 [] [] Tryz.f128 0 lk0 [0,3] [2] [] (q2 pStr qI) xL5 (fun (a,i,_) _=>(xa5 a,(i),fun p=>(.node p.1 (.leaf .ret [AV.bool p.2.1] []) (.leaf (.exit 0) [.top] [])))) (false,false,()) fun (a,_,_) _ (i)=>(((a,i,()),()),xeW a i none)
def xkk {T:Type} (a:List UInt8) (δ:T) (κ:Bool->T):T:=br ((Iter (xa5 a) 0).isSome) (br (((Iter (xa5 a) 0).getD (false,false,())).fst) (κ (((Iter (xa5 a) 0).getD (false,false,())).snd.fst)) (κ (true))) δ
def xi0 (a:List UInt8):=xkk a none some
def xDR:EO:=xrH.f Tryz.func128 20 0 [] [(2,xly.lp)] (lk1 xly.ok) (u1 (sEq pStr)) (fun (a,_) _=>xkk a) (fun _ p=>AV.bool p) false
def xoE {T:Type} (c a:Int) (b:List UInt8) (δ:T) (κ:Bool->T):T:=br (c==0) (br (a==0) (κ (b==[])) (κ (false))) (br (c==1) (br (b==[]) (br (decide (a>=(-1125899906842624))) (κ (decide (a<=1125899906842624))) (κ (false))) (κ (false))) (br (c==2) (br (a==0) (br (decide ((↑b.length:Int)<=200)) (br ((xi0 b).isSome) (κ ((xi0 b).getD false)) δ) (κ (false))) (κ (false))) (br (c==3) (br (b==[]) (br (a==0) (κ (true)) (κ (a==1))) (κ (false))) (κ (false)))))
def xkH (a b:Int) (c:List UInt8):=xoE a b c none some
def xzc:LA->Option (Bool×AV):=fnO (u1 (xMk (u3 uI uI (sEq pStr)))) (fun ((a,b,c,_),_) _=>xoE a b c) (fun _ p=>AV.bool p) false
theorem xsM:OcOk P0 xL2 108 xzc:=fnC xDR.ok Tryz.func108 61 0 [] [] lk0
def xIh:EO:=xDR.w xsM
def xiG (a:Int):Int×Int:=(br (a==1) ((0,0)) (br (a==2) ((0,0)) (br (a==4) ((1,1)) (br (a==18) ((1,1)) (br (a==20) ((1,1)) (br (a==21) ((1,1)) (br (a==5) ((2,1099511627776)) (br (a==6) ((2,1099511627776)) (br (a==7) ((2,2)) (br (a==8) ((2,2)) (br (a==9) ((2,2)) (br (a==10) ((2,2)) (br (a==11) ((2,2)) (br (a==12) ((2,2)) (br (a==13) ((2,2)) (br (a==14) ((2,2)) (br (a==15) ((2,2)) (br (a==16) ((2,2)) (br (a==17) ((2,2)) (br (a==19) ((2,2)) (br (a==22) ((3,3)) (br (a==23) ((1,1099511627776)) (br (a==24) ((4,4)) (((-1),0)))))))))))))))))))))))))
def xzg {T:Type} (a:Int) (δ:T) (κ:Int×Int->T):T:=br (a==1) (κ (0,0)) (br (a==2) (κ (0,0)) (br (a==4) (κ (1,1)) (br (a==18) (κ (1,1)) (br (a==20) (κ (1,1)) (br (a==21) (κ (1,1)) (br (a==5) (κ (2,1099511627776)) (br (a==6) (κ (2,1099511627776)) (br (a==7) (κ (2,2)) (br (a==8) (κ (2,2)) (br (a==9) (κ (2,2)) (br (a==10) (κ (2,2)) (br (a==11) (κ (2,2)) (br (a==12) (κ (2,2)) (br (a==13) (κ (2,2)) (br (a==14) (κ (2,2)) (br (a==15) (κ (2,2)) (br (a==16) (κ (2,2)) (br (a==17) (κ (2,2)) (br (a==19) (κ (2,2)) (br (a==22) (κ (3,3)) (br (a==23) (κ (1,1099511627776)) (br (a==24) (κ (4,4)) (κ ((-1),0))))))))))))))))))))))))
def xIi:EO:=xIh.fT Tryz.func149 35 0 [7000000] [] lk0 (fun (a,_)=>xzg a none) (u1 uI) (fun (a,_)=>xiG a) (fun _ p=>(AV.tuple [AV.int .i64 p.1,AV.int .i64 p.2]))
def xng {T:Type} (a f b c:Int) (d g:List UInt8) (e:LA) (δ:T) (κ:Bool->T):T:=br (decide ((xiG a).fst<0)) (κ (false)) (br (decide ((↑e.length:Int)<(xiG a).fst)) (κ (false)) (br (decide ((↑e.length:Int)>(xiG a).snd)) (κ (false)) (br (!g==[]) (κ (false)) (br (a==1) (br (f==0) (br ((xkH b c d).isSome) (κ ((xkH b c d).getD false)) δ) (κ (false))) (br (a==2) (κ (b==0&&(c==0&&(d==[]&&true)))) (br (a==24) (br (b==0&&(c==0&&(d==[]&&true))) (br (decide (f>=0)) (κ (decide (f<13))) (κ (false))) (κ (false))) (br (f==0) (κ (b==0&&(c==0&&(d==[]&&true)))) (κ (false)))))))))
def xmo (b g c d:Int) (e f:List UInt8) (a:LA):=xng b g c d e f a none some
def xDS:EO:=xIi.f Tryz.func150 75 0 [] [] lk0 (u1 (xMk (u7 uI uI uI uI (sEq pStr) (sEq pStr) (uL 7)))) (fun ((b,h,c,d,e,g,a,_),_) _=>xng b h c d e g a) (fun _ p=>AV.bool p) false
def xj1 {T:Type} (l:LA) (a i:Int) (δ:T) (κl:(Int)->T) (κr:(Bool×(Bool)×(Unit))->T):T:=br (decide (i<l.length)) (br (ixI l i) (br (ixS l i (Sh.int .i64) 0) (br ((gC l i 0).toInt != a) (br (ixI l i) (br (ixS l i (Sh.int .i64) 0) (br ((gC l i 0).toInt != 0) (κr (true,(false),())) (κl (i64.wrap (i+1)))) δ) δ) (κl (i64.wrap (i+1)))) δ) δ) (κr (false,false,()))
def xcC (l:LA) (a:Int):StT (Int) (Bool×(Bool)×(Unit)):=fun (i)=>xj1 l a i none inL inR
def xqO:=xDS.l 25 0 [] [] Tryz.f175 0 lk0 [0,1,5] [4] [] (q3 (qL 1) qI qI) xL5 (fun (l,a,i,_) _=>(xcC l a,(i),fun p=>(.node p.1 (.leaf .ret [AV.bool p.2.1] []) (.leaf (.exit 0) [.top] [])))) (false,false,()) fun (l,a,_,_) _ (i)=>(((l,a,i,()),()),xj1 l a i none)
def xrh {T:Type} (l:LA) (a:Int) (δ:T) (κ:Bool->T):T:=br ((Iter (xcC l a) 0).isSome) (br (((Iter (xcC l a) 0).getD (false,false,())).fst) (κ (((Iter (xcC l a) 0).getD (false,false,())).snd.fst)) (κ (true))) δ
def xcG (l:LA) (a:Int):=xrh l a none some
def xDT:EO:=xDS.f Tryz.func175 25 0 [] [(2,xqO.lp)] (lk1 xqO.ok) (u2 (uL 1) uI) (fun (l,a,_) _=>xrh l a) (fun _ p=>AV.bool p) false
def xh0 (l:LA) (i:Int):=ixI l i
def xh1 (l:LA) (i:Int):=decide (i.toNat<l.length)&&xLj (Sh.int .i64) (gC l i 0)
def xg9 {T:Type} (l:LA) (i:Int) (δ:T) (κl:(Int×Int)->T):T:=br (xh0 l i) (br (xh1 l i) (κl ((gC l i 0).toInt,i64.wrap (i+1))) δ) δ
def xi3 {T:Type} (l:LA) (k i:Int) (δ:T) (κl:(Int×Int)->T) (κr:(Bool×(Int×Bool×Int)×(Int))->T):T:=br (decide (i<l.length)) (br (xh0 l i) (br (xh1 l i) (br ((gC l i 0).toInt==0) (κl (k,i64.wrap (i+1))) (br (k != 0) (br (xh0 l i) (br (xh1 l i) (br (k != (gC l i 0).toInt) (κr (true,(0,false,k),0)) (xg9 l i δ κl)) δ) δ) (xg9 l i δ κl))) δ) δ) (κr (false,(0,false,0),(k)))
def xc3 (l:LA):StT (Int×Int) (Bool×(Int×Bool×Int)×(Int)):=fun (k,i)=>xi3 l k i none inL inR
def xpZ:=xDT.l 32 0 [] [] Tryz.f176 0 lk0 [0,4,5] [2,3,4] [] (q3 (qL 1) qI qI) xL5 (fun (l,k,i,_) _=>(xc3 l,(k,i),fun p=>(.node p.1 (.leaf .ret [AV.int .i64 p.2.1.1,AV.bool p.2.1.2.1,AV.int .i64 p.2.1.2.2] []) (.leaf (.exit 0) [.top,.top,AV.int .i64 p.2.2] [])))) (false,(0,false,0),0) fun (l,_,_,_) _ (k,i)=>(((l,k,i,()),()),xi3 l k i none)
def xoL (l:LA):=(Iter (xc3 l) (0,0)).getD (false,(0,false,0),0)
def xoK (l:LA):=(xoL l).snd
def xoJ (l:LA):=(xoK l).fst
def xpx {T:Type} (l:LA) (δ:T) (κ:Int×Bool->T):T:=br ((Iter (xc3 l) (0,0)).isSome) (br ((xoL l).fst) (κ ((xoJ l).fst,(xoJ l).snd.fst)) (κ ((xoK l).snd,true))) δ
def xdp (l:LA):=xpx l none some
def xIj:EO:=xDT.f Tryz.func176 32 0 [] [(3,xpZ.lp)] (lk1 xpZ.ok) (u1 (uL 1)) (fun (l,_) _=>xpx l) (fun _ p=>AV.tuple [AV.int .i64 p.1,AV.bool p.2]) (0,false)
def xcU {T:Type} (l:LA) (δ:T) (κ:Int×Bool->T):T:=br ((xdp l).isSome) (κ (3,((xdp l).getD (0,false)).snd)) δ
def xcV {T:Type} (l:LA) (δ:T) (κ:Int×Bool->T):T:=br ((xcG l 1).isSome) (κ (1,(xcG l 1).getD false)) δ
def xh2 {T:Type} (l:LA) (δ:T) (κ:Int×Bool->T):T:=br ((xcG l 3).isSome) (κ (3,(xcG l 3).getD false)) δ
def xns {T:Type} (a c d f:Int) (g h:List UInt8) (e l b:LA) (δ:T) (κ:Int×Bool->T):T:=br (a==1) (κ (d,true)) (br (a==2) (br (ixI b c) (br (ixS b c (Sh.int .i64) 0) (κ ((gC b c 0).toInt,true)) δ) δ) (br (a==4) (xh2 l δ κ) (br (a==5) (xh2 l δ κ) (br (a==6) (xh2 l δ κ) (br (a==7) (xcU l δ κ) (br (a==8) (xcU l δ κ) (br (a==9) (xcU l δ κ) (br (a==10) (xcU l δ κ) (br (a==11) (xcU l δ κ) (br (a==12) (xcU l δ κ) (br (a==13) (xcV l δ κ) (br (a==14) (xcV l δ κ) (br (a==15) (xcV l δ κ) (br (a==16) (xcV l δ κ) (br (a==17) (xcV l δ κ) (br (a==18) (xcV l δ κ) (br (a==19) (br ((xcG l 2).isSome) (κ (2,(xcG l 2).getD false)) δ) (br (a==20) (br ((xcG l 2).isSome) (κ (1,(xcG l 2).getD false)) δ) (br (a==21) (κ (3,true)) (br (a==22) (br (decide (1<=(↑l.length:Int))) (br ((xdp (List.take (l.length - 1) (List.drop 1 l))).isSome) (br (((xdp (List.take (l.length - 1) (List.drop 1 l))).getD (0,false)).snd) (br (decide (1<=(↑l.length:Int))&&true) (br ((xcG (List.take 1 (List.drop 0 l)) 3).isSome) (κ (((xdp (List.take (l.length - 1) (List.drop 1 l))).getD (0,false)).fst,(xcG (List.take 1 (List.drop 0 l)) 3).getD false)) δ) δ) (κ (((xdp (List.take (l.length - 1) (List.drop 1 l))).getD (0,false)).fst,false))) δ) δ) (br (a==23) (br ((xdp l).isSome) (κ (((xdp l).getD (0,false)).fst,((xdp l).getD (0,false)).snd)) δ) (br ((xcG l 1).isSome) (κ (3,(xcG l 1).getD false)) δ))))))))))))))))))))))
def xhl (c h d e:Int) (f g:List UInt8) (a l b:LA):=xns c h d e f g a l b none some
def xrI:EO:=xIj.f Tryz.func151 87 0 [7000000] [] lk0 (u3 (xMk (u7 uI uI uI uI (sEq pStr) (sEq pStr) (uL 7))) (uL 1) (uL 1)) (fun ((c,i,d,e,g,h,a,_),l,b,_) _=>xns c i d e g h a l b) (fun _ p=>AV.tuple [AV.int .i64 p.1,AV.bool p.2]) (0,false)
def xdQ (R:Int->Int->Int->Int->List UInt8->List UInt8->LA->Option (Int)):LA->Option (Bool×AV):=ocOf (xL4 (xMk (xL4 (sEq (pInt .i64)) (xL4 (sEq (pInt .i64)) (xL4 (sEq (pInt .i64)) (xL4 (sEq (pInt .i64)) (xL4 (sEq pStr) (xL4 (sEq pStr) (xL4 (xMj 7 xL7) xL6)))))))) xL6) fun ((b,(i,(c,(d,(e,(f,(a,_))))))),_)=>((R b i c d e f a).isSome,AV.int .i64 ((R b i c d e f a).getD 0))
theorem xsx (k:Go.FuncId) (R:Nat->Int->Int->Int->Int->List UInt8->List UInt8->LA->Option (Int)) (g:∀ n,OcOk P0 xL2 k (xdQ (R n))):OcOk P0 xL2 k (xdQ (fun b i c d e f a=>limN fun n=>R n b i c d e f a)):=xAy g fun v h=>by
 obtain ⟨⟨b,⟨i,⟨c,⟨d,⟨e,⟨f,⟨a,_⟩⟩⟩⟩⟩⟩⟩,_⟩:=v;obtain ⟨n,j⟩:=xym (R:=fun n=>R n b i c d e f a) h
 exact ⟨n,congrArg (fun o=>(Option.isSome o,(AV.int .i64 (Option.getD o 0):AV))) j⟩
def xdt (R:Int->Int->Int->Int->List UInt8->List UInt8->LA->Option (Int)):Prop:=OcOk P0 xL2 126 (xdQ R)
def xfh (R:Int->Int->Int->Int->List UInt8->List UInt8->LA->Option (Int)):Env:=(xrI.E.with 126 (xdQ R)).fn 22 0 (lsOf []) (xLI [])
abbrev xkr (R:Int->Int->Int->Int->List UInt8->List UInt8->LA->Option (Int)):Prop:=xdt R
theorem xt5 (R:Int->Int->Int->Int->List UInt8->List UInt8->LA->Option (Int)) (a:xkr R):xLl P0 (xL2.at 0) (xfh R):=(xrI.ok.with a).fn
theorem xrj (R:Int->Int->Int->Int->List UInt8->List UInt8->LA->Option (Int)) (a:xkr R):LoOk P0 (xL2.at (xfh R).pin) (xfh R) (xLp Tryz.f126 0):=xhW (by kernel_rfl)
def xku (R:Int->Int->Int->Int->List UInt8->List UInt8->LA->Option Int) (i:Int) (a:LA):=R (gC a i 0).toInt (gC a i 1).toInt (gC a i 2).toInt (gC a i 3).toInt (gC a i 4).toStr (gC a i 5).toStr (gC a i 6).toList
def xkt (R:Int->Int->Int->Int->List UInt8->List UInt8->LA->Option Int) (i:Int) (a:LA):=(xku R i a).getD 0
def xfF {T:Type} (R:Int->Int->Int->Int->List UInt8->List UInt8->LA->Option Int) (n i b c d e:Int) (f g:List UInt8) (a:LA) (δ:T) (κl:(Int×Int×Int×Int×Int×Int×List UInt8×List UInt8×LA)->T) (κr:(Int)->T):T:=br (decide (i<a.length)) (br (ixI a i) (br (ixT a i 7 [Sh.int .i64,Sh.int .i64,Sh.int .i64,Sh.int .i64,Sh.str,Sh.str,Sh.list 7] 0) (br ((xku R i a).isSome) (κl (if xkt R i a>n then xkt R i a else n,i64.wrap (i+1),b,c,d,e,f,g,a)) δ) δ) δ) (κr (n))
def xbv (R:Int->Int->Int->Int->List UInt8->List UInt8->LA->Option Int):StT (Int×Int×Int×Int×Int×Int×List UInt8×List UInt8×LA) (Int):=fun (n,i,a,b,c,d,e,f,g)=>xfF R n i a b c d e f g none inL inR
def xcc (R:Int->Int->Int->Int->List UInt8->List UInt8->LA->Option Int):(Int×Int×Int×Int×Int×Int×List UInt8×List UInt8×LA)->LA×List Box:=fun (n,i,a,b,c,d,e,f,g)=>([AV.own 0 0 0 0,AV.int .i64 n,AV.int .i64 i],[⟨0,7,153,[AV.agg [AV.int .i64 a,AV.int .i64 b,AV.int .i64 c,AV.int .i64 d,AV.str e,AV.str f,AV.list 7 g]],false,true⟩])
def xc5 (R:Int->Int->Int->Int->List UInt8->List UInt8->LA->Option Int):(Int)->LR:=fun p=>(.leaf (.exit 0) [AV.int .i64 p] [])
abbrev xp3 (R:Int->Int->Int->Int->List UInt8->List UInt8->LA->Option Int) (a:LA) (H:List Box):=XR P0 (xfh R) [1,3,4] [3] [] (xLp Tryz.f126 0) a H
theorem xu7 (R:Int->Int->Int->Int->List UInt8->List UInt8->LA->Option Int) (s:Int×Int×Int×Int×Int×Int×List UInt8×List UInt8×LA):Enc (encR (xcc R) (xc5 R)) (xbv R s) (xp3 R (xcc R s).1 (xcc R s).2):=by
 obtain ⟨n,i,a,b,c,d,e,f,g⟩:=s;have h:xp3 R (xcc R (n,i,a,b,c,d,e,f,g)).1 (xcc R (n,i,a,b,c,d,e,f,g)).2=xfF R n i a b c d e f g none (fun s=>some (encR (xcc R) (xc5 R) (.inl s))) (fun p=>some (encR (xcc R) (xc5 R) (.inr p))):=by kernel_rfl
 rw [h];unfold xbv xfF;repeat' (first|refine Enc.br ?_ ?_|exact Enc.none|exact Enc.some rfl)
def xks (R:Int->Int->Int->Int->List UInt8->List UInt8->LA->Option Int):Lp:=lpOf [1,3,4] [3] [] (xL3 (xMg 0 0 0 0) (xL3 (pInt .i64) (xL3 (pInt .i64) xL5))) (xL3 (xMi 0 7 153 false true (xL3 (xMh (xL3 (pInt .i64) (xL3 (pInt .i64) (xL3 (pInt .i64) (xL3 (pInt .i64) (xL3 pStr (xL3 pStr (xL3 (xMl 7 xL7) xL5)))))))) xL5)) xL5) fun (_,(n,(i,_))) (((a,(b,(c,(d,(e,(f,(g,_))))))),_),_)=>((Iter (xbv R) (n,i,a,b,c,d,e,f,g)).isSome,xc5 R ((Iter (xbv R) (n,i,a,b,c,d,e,f,g)).getD 0))
theorem xty (R:Int->Int->Int->Int->List UInt8->List UInt8->LA->Option Int) (a:xkr R):LoopOk P0 (xL2.at (xfh R).pin) (xfh R).nt (xLp Tryz.f126 0) (xks R):=xAp fun k l o m=>by
 obtain ⟨_,⟨n,⟨i,_⟩⟩⟩:=k;obtain ⟨⟨⟨b,⟨c,⟨d,⟨e,⟨f,⟨g,⟨h,_⟩⟩⟩⟩⟩⟩⟩,_⟩,_⟩:=l;obtain ⟨j,rfl⟩:=Prod.mk.inj m;exact xsb xLu (xLv P0 _) rfl (xt5 R a) (xrj R a) (xcc R) (xc5 R) (fun p=>by simp only [xc5,LR.eval];first|(simp;done)|(repeat' split<;>simp)) (xu7 R) (s:=(n,i,b,c,d,e,f,g,h)) (xa6 j)
def xdP (R:Int->Int->Int->Int->List UInt8->List UInt8->LA->Option (Int)):Env:=(xrI.E.with 126 (xdQ R)).fn 22 0 (lsOf []) (xLI [(3,xks R)])
theorem xt6 (R:Int->Int->Int->Int->List UInt8->List UInt8->LA->Option (Int)) (a:xdt R):xLl P0 (xL2.at 0) (xdP R):=(xrI.ok.with a).fn
theorem xso (R:Int->Int->Int->Int->List UInt8->List UInt8->LA->Option (Int)) (c:xdt R):LoOk P0 (xL2.at (xdP R).pin) (xdP R) (Tryz.f126.body.getD .skip):=xpF (ls:=[xLp Tryz.f126 0]) (by kernel_rfl) (fun l b lp a=>by
 simp only [zB,List.not_mem_nil,or_false] at b;rcases b with rfl
 . rw [show (xdP R).lp (xLA (xLp Tryz.f126 0))=some (xks R) by kernel_rfl] at a
   simp only [z1] at a;subst a;exact xty R c)
def xnr (R:Int->Int->Int->Int->List UInt8->List UInt8->LA->Option Int) (b i c d:Int) (e f:List UInt8) (a:LA):=Iter (xbv R) (0,0,b,i,c,d,e,f,a)
def xkQ {T:Type} (R:Int->Int->Int->Int->List UInt8->List UInt8->LA->Option Int) (b i c d:Int) (e f:List UInt8) (a:LA) (δ:T) (κ:Int->T):T:=br ((xnr R b i c d e f a).isSome) (κ (i64.wrap ((xnr R b i c d e f a).getD 0+1))) δ
def xgY (R:Int->Int->Int->Int->List UInt8->List UInt8->LA->Option Int) (b i c d:Int) (e f:List UInt8) (a:LA):=xkQ R b i c d e f a none some
theorem xzm (R:Int->Int->Int->Int->List UInt8->List UInt8->LA->Option Int) (b i c d:Int) (e f:List UInt8) (a:LA):Enc (fun (p:Int)=>((AV.int .i64 p):AV)) (xgY R b i c d e f a) (XF P0 (xdP R) Tryz.f126 (Tryz.f126.body.getD .skip) [AV.agg [AV.int .i64 b,AV.int .i64 i,AV.int .i64 c,AV.int .i64 d,AV.str e,AV.str f,AV.list 7 a]]):=by
 have h:XF P0 (xdP R) Tryz.f126 (Tryz.f126.body.getD .skip) [AV.agg [AV.int .i64 b,AV.int .i64 i,AV.int .i64 c,AV.int .i64 d,AV.str e,AV.str f,AV.list 7 a]]=xkQ R b i c d e f a none (fun (p:Int)=>some ((AV.int .i64 p):AV)):=by kernel_rfl
 rw [h];unfold xgY xkQ;repeat' (first|refine Enc.br ?_ ?_|exact Enc.none|exact Enc.some rfl)
def xzl (R:Int->Int->Int->Int->List UInt8->List UInt8->LA->Option Int):LA->Option (Bool×AV):=ocOf (xL4 (xMk (xL4 (sEq (pInt .i64)) (xL4 (sEq (pInt .i64)) (xL4 (sEq (pInt .i64)) (xL4 (sEq (pInt .i64)) (xL4 (sEq pStr) (xL4 (sEq pStr) (xL4 (xMj 7 xL7) xL6)))))))) xL6) fun ((b,(i,(c,(d,(e,(f,(a,_))))))),_)=>((xgY R b i c d e f a).isSome,(AV.int .i64 ((xgY R b i c d e f a).getD 0)))
theorem xzk (R:Int->Int->Int->Int->List UInt8->List UInt8->LA->Option Int) (a:xdt R):OcOk P0 xL2 126 (xzl R):=xhh fun e h f=>by
 obtain ⟨⟨j,⟨i,⟨k,⟨l,⟨m,⟨n,⟨g,_⟩⟩⟩⟩⟩⟩⟩,_⟩:=e;obtain ⟨b,c⟩:=Prod.mk.inj f;refine xjq (p:=(xdP R).pin) (xlu xLu (xLv P0 _) rfl (xt6 R a) Tryz.func126 rfl (by kernel_rfl) (xso R a) ((xzm R _ _ _ _ _ _ _ _ (xa6 (d:=0) b)).trans ?_))
 exact congrArg some c
def xcT:Nat->Int->Int->Int->Int->List UInt8->List UInt8->LA->Option (Int)
 | 0=>fun _ _ _ _ _ _ _=>none
 | fu_+1=>fun b i c d e f a=>xgY (xcT fu_) b i c d e f a
theorem xp2:∀ n,xdt (xcT n)
 | 0=>xhh fun _ _ h=>absurd (Prod.mk.inj h).1 Bool.false_ne_true
 | fu_+1=>fun a r h=>xzk (xcT fu_) (xp2 fu_) a r h
def xiA:Int->Int->Int->Int->List UInt8->List UInt8->LA->Option (Int):=fun b i c d e f a=>limN fun n=>xcT n b i c d e f a
theorem xu6:xdt xiA:=xsx 126 xcT xp2
def xvg:Env:=xrI.E.with 126 (xdQ xiA)
theorem xs2:xLl P0 xL2 xvg:=xrI.ok.with xu6
def xdO (R:Int->Int->Int->Int->List UInt8->List UInt8->LA->LA->Option (Int×Int)):LA->Option (Bool×AV):=ocOf (xL4 (xMk (xL4 (sEq (pInt .i64)) (xL4 (sEq (pInt .i64)) (xL4 (sEq (pInt .i64)) (xL4 (sEq (pInt .i64)) (xL4 (sEq pStr) (xL4 (sEq pStr) (xL4 (xMj 7 xL7) xL6)))))))) (xL4 (xMj 1 xL7) xL6)) fun ((b,(i,(c,(d,(e,(f,(a,_))))))),(g,_))=>((R b i c d e f a g).isSome,AV.tuple [AV.int .i64 (((R b i c d e f a g).getD (0,0))).1,AV.int .i64 (((R b i c d e f a g).getD (0,0))).2])
theorem xsZ (k:Go.FuncId) (R:Nat->Int->Int->Int->Int->List UInt8->List UInt8->LA->LA->Option (Int×Int)) (j:∀ n,OcOk P0 xL2 k (xdO (R n))):OcOk P0 xL2 k (xdO (fun b i c d e f a g=>limN fun n=>R n b i c d e f a g)):=xAy j fun v h=>by
 obtain ⟨⟨b,⟨i,⟨c,⟨d,⟨e,⟨f,⟨a,_⟩⟩⟩⟩⟩⟩⟩,⟨g,_⟩⟩:=v;obtain ⟨n,l⟩:=xym (R:=fun n=>R n b i c d e f a g) h
 exact ⟨n,congrArg (fun o=>(Option.isSome o,(AV.tuple [AV.int .i64 ((Option.getD o (0,0))).1,AV.int .i64 ((Option.getD o (0,0))).2]:AV))) l⟩
def xds (R:Int->Int->Int->Int->List UInt8->List UInt8->LA->LA->Option (Int×Int)):Prop:=OcOk P0 xL2 127 (xdO R)
def xfg (R:Int->Int->Int->Int->List UInt8->List UInt8->LA->LA->Option (Int×Int)):Env:=(xvg.with 127 (xdO R)).fn 75 0 (lsOf []) (xLI [])
abbrev xkm (R:Int->Int->Int->Int->List UInt8->List UInt8->LA->LA->Option (Int×Int)):Prop:=xds R
theorem xt3 (R:Int->Int->Int->Int->List UInt8->List UInt8->LA->LA->Option (Int×Int)) (a:xkm R):xLl P0 (xL2.at 0) (xfg R):=(xs2.with a).fn
theorem xri (R:Int->Int->Int->Int->List UInt8->List UInt8->LA->LA->Option (Int×Int)) (a:xkm R):LoOk P0 (xL2.at (xfg R).pin) (xfg R) (xLp Tryz.f127 0):=xhW (by kernel_rfl)
def xkq (R:Int->Int->Int->Int->List UInt8->List UInt8->LA->LA->Option (Int×Int)) (b:LA) (i:Int) (a:LA):Option (Int×Int):=R (gC a i 0).toInt (gC a i 1).toInt (gC a i 2).toInt (gC a i 3).toInt (gC a i 4).toStr (gC a i 5).toStr (gC a i 6).toList b
def xkp (R:Int->Int->Int->Int->List UInt8->List UInt8->LA->LA->Option (Int×Int)) (a:LA) (i:Int) (b:LA):Int×Int:=(xkq R a i b).getD (0,0)
def xko (R:Int->Int->Int->Int->List UInt8->List UInt8->LA->LA->Option (Int×Int)) (a:LA) (i:Int) (b:LA):Int:=(xkp R a i b).snd
def xfE {T:Type} (R:Int->Int->Int->Int->List UInt8->List UInt8->LA->LA->Option (Int×Int)) (b:LA) (d:Nat) (i e f g h:Int) (j k:List UInt8) (a c:LA) (δ:T) (κl:(Nat×Int×Int×Int×Int×Int×List UInt8×List UInt8×LA×LA)->T) (κr:(Bool×(Int×Int×Nat×Int×Int×Int×Int×List UInt8×List UInt8×LA×LA)×(Nat×Int×Int×Int×Int×List UInt8×List UInt8×LA×LA))->T):T:=br (decide (i<a.length)) (br (ixI a i) (br (ixT a i 7 [Sh.int .i64,Sh.int .i64,Sh.int .i64,Sh.int .i64,Sh.str,Sh.str,Sh.list 7] 0) (br ((xkq R b i a).isSome) (br (xko R b i a != 0) (κr (true,(0,xko R b i a,d,e,f,g,h,j,k,a,c),(0,0,0,0,0,[],[],[],[]))) (br (rmB d c 1 8) (κl (d+1,i64.wrap (i+1),e,f,g,h,j,k,a,c++[AV.int .i64 (xkp R b i a).fst])) δ)) δ) δ) δ) (κr (false,(0,0,0,0,0,0,0,[],[],[],[]),(d,e,f,g,h,j,k,a,c)))
def xbu (R:Int->Int->Int->Int->List UInt8->List UInt8->LA->LA->Option (Int×Int)) (a:LA):StT (Nat×Int×Int×Int×Int×Int×List UInt8×List UInt8×LA×LA) (Bool×(Int×Int×Nat×Int×Int×Int×Int×List UInt8×List UInt8×LA×LA)×(Nat×Int×Int×Int×Int×List UInt8×List UInt8×LA×LA)):=fun (c,i,d,e,f,g,h,j,k,b)=>xfE R a c i d e f g h j k b none inL inR
def xcb (R:Int->Int->Int->Int->List UInt8->List UInt8->LA->LA->Option (Int×Int)) (a:LA):(Nat×Int×Int×Int×Int×Int×List UInt8×List UInt8×LA×LA)->LA×List Box:=fun (c,i,d,e,f,g,h,j,k,b)=>([AV.list 1 a,AV.own 0 0 0 0,AV.osl 1 0 0 c,AV.int .i64 i],[⟨0,7,153,[AV.agg [AV.int .i64 d,AV.int .i64 e,AV.int .i64 f,AV.int .i64 g,AV.str h,AV.str j,AV.list 7 k]],false,true⟩,⟨0,1,3,b,false,true⟩])
def xc4 (R:Int->Int->Int->Int->List UInt8->List UInt8->LA->LA->Option (Int×Int)) (a:LA):(Bool×(Int×Int×Nat×Int×Int×Int×Int×List UInt8×List UInt8×LA×LA)×(Nat×Int×Int×Int×Int×List UInt8×List UInt8×LA×LA))->LR:=fun p=>(.node p.1 (.leaf .ret [AV.list 1 a,AV.own 0 0 0 0,AV.int .i64 p.2.1.1,AV.int .i64 p.2.1.2.1,AV.osl 1 0 0 p.2.1.2.2.1] [⟨0,7,153,[AV.agg [AV.int .i64 p.2.1.2.2.2.1,AV.int .i64 p.2.1.2.2.2.2.1,AV.int .i64 p.2.1.2.2.2.2.2.1,AV.int .i64 p.2.1.2.2.2.2.2.2.1,AV.str p.2.1.2.2.2.2.2.2.2.1,AV.str p.2.1.2.2.2.2.2.2.2.2.1,AV.list 7 p.2.1.2.2.2.2.2.2.2.2.2.1]],false,true⟩,⟨0,1,3,p.2.1.2.2.2.2.2.2.2.2.2.2,false,true⟩]) (.leaf (.exit 0) [AV.list 1 a,AV.own 0 0 0 0,.top,.top,AV.osl 1 0 0 p.2.2.1] [⟨0,7,153,[AV.agg [AV.int .i64 p.2.2.2.1,AV.int .i64 p.2.2.2.2.1,AV.int .i64 p.2.2.2.2.2.1,AV.int .i64 p.2.2.2.2.2.2.1,AV.str p.2.2.2.2.2.2.2.1,AV.str p.2.2.2.2.2.2.2.2.1,AV.list 7 p.2.2.2.2.2.2.2.2.2.1]],false,true⟩,⟨0,1,3,p.2.2.2.2.2.2.2.2.2.2,false,true⟩]))
abbrev xp1 (R:Int->Int->Int->Int->List UInt8->List UInt8->LA->LA->Option (Int×Int)) (a:LA) (H:List Box):=XR P0 (xfg R) [1,2,8,9] [1,2,4,5,8] [(8,1,3)] (xLp Tryz.f127 0) a H
theorem xu5 (R:Int->Int->Int->Int->List UInt8->List UInt8->LA->LA->Option (Int×Int)) (a:LA) (s:Nat×Int×Int×Int×Int×Int×List UInt8×List UInt8×LA×LA):Enc (encR (xcb R a) (xc4 R a)) (xbu R a s) (xp1 R (xcb R a s).1 (xcb R a s).2):=by
 obtain ⟨c,i,d,e,f,g,j,k,l,b⟩:=s;have h:xp1 R (xcb R a (c,i,d,e,f,g,j,k,l,b)).1 (xcb R a (c,i,d,e,f,g,j,k,l,b)).2=xfE R a c i d e f g j k l b none (fun s=>some (encR (xcb R a) (xc4 R a) (.inl s))) (fun p=>some (encR (xcb R a) (xc4 R a) (.inr p))):=by kernel_rfl
 rw [h];unfold xbu xfE;repeat' (first|refine Enc.br ?_ ?_|exact Enc.none|exact Enc.some rfl)
def xkn (R:Int->Int->Int->Int->List UInt8->List UInt8->LA->LA->Option (Int×Int)):Lp:=lpOf [1,2,8,9] [1,2,4,5,8] [(8,1,3)] (xL3 (xMl 1 xL7) (xL3 (xMg 0 0 0 0) (xL3 (xMf 1 0 0) (xL3 (pInt .i64) xL5)))) (xL3 (xMi 0 7 153 false true (xL3 (xMh (xL3 (pInt .i64) (xL3 (pInt .i64) (xL3 (pInt .i64) (xL3 (pInt .i64) (xL3 pStr (xL3 pStr (xL3 (xMl 7 xL7) xL5)))))))) xL5)) (xL3 (xMi 0 1 3 false true xL7) xL5)) fun (a,(_,(c,(i,_)))) (((d,(e,(f,(g,(h,(j,(k,_))))))),_),(b,_))=>((Iter (xbu R a) (c,i,d,e,f,g,h,j,k,b)).isSome,xc4 R a ((Iter (xbu R a) (c,i,d,e,f,g,h,j,k,b)).getD (false,(0,0,0,0,0,0,0,[],[],[],[]),(0,0,0,0,0,[],[],[],[]))))
theorem xtw (R:Int->Int->Int->Int->List UInt8->List UInt8->LA->LA->Option (Int×Int)) (c:xkm R):LoopOk P0 (xL2.at (xfg R).pin) (xfg R).nt (xLp Tryz.f127 0) (xkn R):=xAp fun n o r q=>by
 obtain ⟨a,⟨_,⟨d,⟨i,_⟩⟩⟩⟩:=n;obtain ⟨⟨⟨e,⟨f,⟨g,⟨h,⟨j,⟨k,⟨l,_⟩⟩⟩⟩⟩⟩⟩,_⟩,⟨b,_⟩⟩:=o;obtain ⟨m,rfl⟩:=Prod.mk.inj q;exact xsb xLu (xLv P0 _) rfl (xt3 R c) (xri R c) (xcb R a) (xc4 R a) (fun p=>by simp only [xc4,LR.eval];first|(simp;done)|(repeat' split<;>simp)) (xu5 R a) (s:=(d,i,e,f,g,h,j,k,l,b)) (xa6 m)
def xdN (R:Int->Int->Int->Int->List UInt8->List UInt8->LA->LA->Option (Int×Int)):Env:=(xvg.with 127 (xdO R)).fn 75 0 (lsOf []) (xLI [(10,xkn R)])
theorem xt4 (R:Int->Int->Int->Int->List UInt8->List UInt8->LA->LA->Option (Int×Int)) (a:xds R):xLl P0 (xL2.at 0) (xdN R):=(xs2.with a).fn
theorem xsn (R:Int->Int->Int->Int->List UInt8->List UInt8->LA->LA->Option (Int×Int)) (c:xds R):LoOk P0 (xL2.at (xdN R).pin) (xdN R) (Tryz.f127.body.getD .skip):=xpF (ls:=[xLp Tryz.f127 0]) (by kernel_rfl) (fun l b lp a=>by
 simp only [zB,List.not_mem_nil,or_false] at b;rcases b with rfl
 . rw [show (xdN R).lp (xLA (xLp Tryz.f127 0))=some (xkn R) by kernel_rfl] at a
   simp only [z1] at a;subst a;exact xtw R c)
def xmu (R:Int->Int->Int->Int->List UInt8->List UInt8->LA->LA->Option (Int×Int)) (b i c d:Int) (e f:List UInt8) (a g:LA):Option
 (Bool ×
  (Int×Int×Nat×Int×Int×Int×Int×List UInt8×List UInt8×LA×LA) ×
   Nat×Int×Int×Int×Int×List UInt8×List UInt8×LA×LA):=Iter (xbu R g) (0,0,b,i,c,d,e,f,a,[])
def xmt (R:Int->Int->Int->Int->List UInt8->List UInt8->LA->LA->Option (Int×Int)) (b i c d:Int) (e f:List UInt8) (a g:LA):Bool ×
 (Int×Int×Nat×Int×Int×Int×Int×List UInt8×List UInt8×LA×LA) ×
  Nat×Int×Int×Int×Int×List UInt8×List UInt8×LA×LA:=(xmu R b i c d e f a g).getD (false,(0,0,0,0,0,0,0,[],[],[],[]),0,0,0,0,0,[],[],[],[])
def xms (R:Int->Int->Int->Int->List UInt8->List UInt8->LA->LA->Option (Int×Int)) (b i c d:Int) (e f:List UInt8) (a g:LA):(Int×Int×Nat×Int×Int×Int×Int×List UInt8×List UInt8×LA×LA) ×
 Nat×Int×Int×Int×Int×List UInt8×List UInt8×LA×LA:=(xmt R b i c d e f a g).snd
def xmq (R:Int->Int->Int->Int->List UInt8->List UInt8->LA->LA->Option (Int×Int)) (b i c d:Int) (e f:List UInt8) (a g:LA):Int×Int×Nat×Int×Int×Int×Int×List UInt8×List UInt8×LA×LA:=(xms R b i c d e f a g).fst
def xmr (R:Int->Int->Int->Int->List UInt8->List UInt8->LA->LA->Option (Int×Int)) (b i c d:Int) (e f:List UInt8) (a g:LA):Nat×Int×Int×Int×Int×List UInt8×List UInt8×LA×LA:=(xms R b i c d e f a g).snd
def xnq (R:Int->Int->Int->Int->List UInt8->List UInt8->LA->LA->Option (Int×Int)) (b i c d:Int) (e f:List UInt8) (a g:LA):Int×Int×Int×Int×List UInt8×List UInt8×LA×LA:=(xmr R b i c d e f a g).snd
def xmp (R:Int->Int->Int->Int->List UInt8->List UInt8->LA->LA->Option (Int×Int)) (b i c d:Int) (e f:List UInt8) (a g:LA):Nat:=(xmr R b i c d e f a g).fst
def xnp (R:Int->Int->Int->Int->List UInt8->List UInt8->LA->LA->Option (Int×Int)) (b i c d:Int) (e f:List UInt8) (a g:LA):Int×Int×Int×List UInt8×List UInt8×LA×LA:=(xnq R b i c d e f a g).snd
def xno (R:Int->Int->Int->Int->List UInt8->List UInt8->LA->LA->Option (Int×Int)) (b i c d:Int) (e f:List UInt8) (a g:LA):Int×Int×List UInt8×List UInt8×LA×LA:=(xnp R b i c d e f a g).snd
def xnn (R:Int->Int->Int->Int->List UInt8->List UInt8->LA->LA->Option (Int×Int)) (b i c d:Int) (e f:List UInt8) (a g:LA):Int×List UInt8×List UInt8×LA×LA:=(xno R b i c d e f a g).snd
def xnm (R:Int->Int->Int->Int->List UInt8->List UInt8->LA->LA->Option (Int×Int)) (b i c d:Int) (e f:List UInt8) (a g:LA):List UInt8×List UInt8×LA×LA:=(xnn R b i c d e f a g).snd
def xnl (R:Int->Int->Int->Int->List UInt8->List UInt8->LA->LA->Option (Int×Int)) (b i c d:Int) (e f:List UInt8) (a g:LA):List UInt8×LA×LA:=(xnm R b i c d e f a g).snd
def xnk (R:Int->Int->Int->Int->List UInt8->List UInt8->LA->LA->Option (Int×Int)) (b i c d:Int) (e f:List UInt8) (a g:LA):LA×LA:=(xnl R b i c d e f a g).snd
def xnj (R:Int->Int->Int->Int->List UInt8->List UInt8->LA->LA->Option (Int×Int)) (b i c d:Int) (e f:List UInt8) (a g:LA):LA:=(xnk R b i c d e f a g).snd
def xni (R:Int->Int->Int->Int->List UInt8->List UInt8->LA->LA->Option (Int×Int)) (c i d e:Int) (f g:List UInt8) (a b:LA):Option (Int×Bool):=xhl (xnq R c i d e f g a b).fst (xnp R c i d e f g a b).fst (xno R c i d e f g a b).fst (xnn R c i d e f g a b).fst (xnm R c i d e f g a b).fst (xnl R c i d e f g a b).fst (xnk R c i d e f g a b).fst (List.take (xmp R c i d e f g a b) (List.drop 0 (xnj R c i d e f g a b))) b
def xnh (R:Int->Int->Int->Int->List UInt8->List UInt8->LA->LA->Option (Int×Int)) (b i c d:Int) (e f:List UInt8) (a g:LA):Int×Bool:=(xni R b i c d e f a g).getD (0,false)
def xi4 {T:Type} (R:Int->Int->Int->Int->List UInt8->List UInt8->LA->LA->Option (Int×Int)) (b i c d:Int) (e f:List UInt8) (a g:LA) (δ:T) (κ:Int×Int->T):T:=br ((xmu R b i c d e f a g).isSome) (br ((xmt R b i c d e f a g).fst) (κ ((xmq R b i c d e f a g).fst,(xmq R b i c d e f a g).snd.fst)) (br (decide (0+xmp R b i c d e f a g<=(xnj R b i c d e f a g).length)&&true) (br ((xni R b i c d e f a g).isSome) (br (!(xnh R b i c d e f a g).snd) (κ (0,7)) (κ ((xnh R b i c d e f a g).fst,0))) δ) δ)) δ
def xkP {T:Type} (R:Int->Int->Int->Int->List UInt8->List UInt8->LA->LA->Option (Int×Int)) (b i c d:Int) (e f:List UInt8) (a g:LA) (δ:T) (κ:Int×Int->T):T:=br (decide ((xiG b).fst<0)) (κ (0,7)) (br ((xmo b i c d e f a).isSome) (br (!(xmo b i c d e f a).getD false) (κ (0,8)) (br (b==2) (br (decide (i<0)) (κ (0,13)) (br (decide (i>=g.length)) (κ (0,13)) (xi4 R b i c d e f a g δ κ))) (xi4 R b i c d e f a g δ κ))) δ)
def xe8 (R:Int->Int->Int->Int->List UInt8->List UInt8->LA->LA->Option (Int×Int)) (b i c d:Int) (e f:List UInt8) (a g:LA):=xkP R b i c d e f a g none some
theorem xzj (R:Int->Int->Int->Int->List UInt8->List UInt8->LA->LA->Option (Int×Int)) (b i c d:Int) (e f:List UInt8) (a g:LA):Enc (fun (p:Int×Int)=>((AV.tuple [AV.int .i64 p.1,AV.int .i64 p.2]):AV)) (xe8 R b i c d e f a g) (XF P0 (xdN R) Tryz.f127 (Tryz.f127.body.getD .skip) [AV.agg [AV.int .i64 b,AV.int .i64 i,AV.int .i64 c,AV.int .i64 d,AV.str e,AV.str f,AV.list 7 a],AV.list 1 g]):=by
 have h:XF P0 (xdN R) Tryz.f127 (Tryz.f127.body.getD .skip) [AV.agg [AV.int .i64 b,AV.int .i64 i,AV.int .i64 c,AV.int .i64 d,AV.str e,AV.str f,AV.list 7 a],AV.list 1 g]=xkP R b i c d e f a g none (fun (p:Int×Int)=>some ((AV.tuple [AV.int .i64 p.1,AV.int .i64 p.2]):AV)):=by kernel_rfl
 rw [h];unfold xe8 xkP xi4;repeat' (first|refine Enc.br ?_ ?_|exact Enc.none|exact Enc.some rfl)
def xzi (R:Int->Int->Int->Int->List UInt8->List UInt8->LA->LA->Option (Int×Int)):LA->Option (Bool×AV):=ocOf (xL4 (xMk (xL4 (sEq (pInt .i64)) (xL4 (sEq (pInt .i64)) (xL4 (sEq (pInt .i64)) (xL4 (sEq (pInt .i64)) (xL4 (sEq pStr) (xL4 (sEq pStr) (xL4 (xMj 7 xL7) xL6)))))))) (xL4 (xMj 1 xL7) xL6)) fun ((b,(i,(c,(d,(e,(f,(a,_))))))),(g,_))=>((xe8 R b i c d e f a g).isSome,(AV.tuple [AV.int .i64 ((xe8 R b i c d e f a g).getD (0,0)).1,AV.int .i64 ((xe8 R b i c d e f a g).getD (0,0)).2]))
theorem xzh (R:Int->Int->Int->Int->List UInt8->List UInt8->LA->LA->Option (Int×Int)) (a:xds R):OcOk P0 xL2 127 (xzi R):=xhh fun e h f=>by
 obtain ⟨⟨j,⟨i,⟨k,⟨l,⟨m,⟨n,⟨g,_⟩⟩⟩⟩⟩⟩⟩,⟨o,_⟩⟩:=e;obtain ⟨b,c⟩:=Prod.mk.inj f;refine xjq (p:=(xdN R).pin) (xlu xLu (xLv P0 _) rfl (xt4 R a) Tryz.func127 rfl (by kernel_rfl) (xsn R a) ((xzj R _ _ _ _ _ _ _ _ _ (xa6 (d:=(0,0)) b)).trans ?_))
 exact congrArg some c
def xcS:Nat->Int->Int->Int->Int->List UInt8->List UInt8->LA->LA->Option (Int×Int)
 | 0=>fun _ _ _ _ _ _ _ _=>none
 | fu_+1=>fun b i c d e f a g=>xe8 (xcS fu_) b i c d e f a g
theorem xp0:∀ n,xds (xcS n)
 | 0=>xhh fun _ _ h=>absurd (Prod.mk.inj h).1 Bool.false_ne_true
 | fu_+1=>fun a r h=>xzh (xcS fu_) (xp0 fu_) a r h
def xgb:Int->Int->Int->Int->List UInt8->List UInt8->LA->LA->Option (Int×Int):=fun b i c d e f a g=>limN fun n=>xcS n b i c d e f a g
theorem xu4:xds xgb:=xsZ 127 xcS xp0
def xDU:Env:=xvg.with 127 (xdO xgb)
theorem xDW:xLl P0 xL2 xDU:=xs2.with xu4
def xDV:EO:=EO.mk xDU xDW
def xoI {T:Type} (b h c d:Int) (e f:List UInt8) (a g:LA) (δ:T) (κ:Int×Int->T):T:=br ((xiA b h c d e f a).isSome) (br (decide ((xiA b h c d e f a).getD 0>24)) (κ (0,26)) (br ((xgb b h c d e f a g).isSome) (κ (((xgb b h c d e f a g).getD (0,0)).fst,((xgb b h c d e f a g).getD (0,0)).snd)) δ)) δ
def xrg (c h d e:Int) (f g:List UInt8) (a b:LA):=xoI c h d e f g a b none some
def xGx:EO:=xDV.f Tryz.func107 14 0 [] [] lk0 (u2 (xMk (u7 uI uI uI uI (sEq pStr) (sEq pStr) (uL 7))) (uL 1)) (fun ((c,i,d,e,g,h,a,_),b,_) _=>xoI c i d e g h a b) (fun _ p=>AV.tuple [AV.int .i64 p.1,AV.int .i64 p.2]) (0,0)
def xBB:LA:=(([AV.str [(97:UInt8),(100:UInt8),(100:UInt8)],AV.str [(97:UInt8),(102:UInt8),(116:UInt8),(101:UInt8),(114:UInt8)],AV.str [(97:UInt8),(108:UInt8),(108:UInt8)],AV.str [(97:UInt8),(108:UInt8),(116:UInt8),(101:UInt8),(114:UInt8)],AV.str [(97:UInt8),(110:UInt8),(100:UInt8)],AV.str [(97:UInt8),(115:UInt8)],AV.str [(98:UInt8),(101:UInt8),(102:UInt8),(111:UInt8),(114:UInt8),(101:UInt8)],AV.str [(98:UInt8),(101:UInt8),(103:UInt8),(105:UInt8),(110:UInt8)],AV.str [(98:UInt8),(101:UInt8),(116:UInt8),(119:UInt8),(101:UInt8),(101:UInt8),(110:UInt8)],AV.str [(98:UInt8),(111:UInt8),(111:UInt8),(108:UInt8)],AV.str [(98:UInt8),(121:UInt8)],AV.str [(99:UInt8),(104:UInt8),(101:UInt8),(99:UInt8),(107:UInt8)],AV.str [(99:UInt8),(111:UInt8),(97:UInt8),(108:UInt8),(101:UInt8),(115:UInt8),(99:UInt8),(101:UInt8)],AV.str [(99:UInt8),(111:UInt8),(109:UInt8),(109:UInt8),(105:UInt8),(116:UInt8)],AV.str [(99:UInt8),(111:UInt8),(110:UInt8),(116:UInt8),(97:UInt8),(105:UInt8),(110:UInt8),(115:UInt8)],AV.str [(99:UInt8),(111:UInt8),(117:UInt8),(110:UInt8),(116:UInt8)],AV.str [(99:UInt8),(114:UInt8),(101:UInt8),(97:UInt8),(116:UInt8),(101:UInt8)],AV.str [(100:UInt8),(101:UInt8),(102:UInt8),(97:UInt8),(117:UInt8),(108:UInt8),(116:UInt8)],AV.str [(100:UInt8),(101:UInt8),(108:UInt8),(101:UInt8),(116:UInt8),(101:UInt8)],AV.str [(100:UInt8),(101:UInt8),(115:UInt8),(99:UInt8)],AV.str [(100:UInt8),(105:UInt8),(115:UInt8),(116:UInt8),(105:UInt8),(110:UInt8),(99:UInt8),(116:UInt8)],AV.str [(100:UInt8),(114:UInt8),(111:UInt8),(112:UInt8)],AV.str [(100:UInt8),(117:UInt8),(114:UInt8),(105:UInt8),(110:UInt8),(103:UInt8)],AV.str [(101:UInt8),(113:UInt8),(117:UInt8),(97:UInt8),(108:UInt8),(115:UInt8)],AV.str [(101:UInt8),(120:UInt8),(99:UInt8),(101:UInt8),(112:UInt8),(116:UInt8)],AV.str [(102:UInt8),(97:UInt8),(108:UInt8),(115:UInt8),(101:UInt8)],AV.str [(102:UInt8),(105:UInt8),(110:UInt8),(105:UInt8),(115:UInt8),(104:UInt8),(101:UInt8),(100:UInt8),(98:UInt8),(121:UInt8)],AV.str [(102:UInt8),(105:UInt8),(110:UInt8),(105:UInt8),(115:UInt8),(104:UInt8),(101:UInt8),(115:UInt8)],AV.str [(102:UInt8),(111:UInt8),(114:UInt8),(101:UInt8),(105:UInt8),(103:UInt8),(110:UInt8)],AV.str [(102:UInt8),(111:UInt8),(114:UInt8),(101:UInt8),(118:UInt8),(101:UInt8),(114:UInt8)],AV.str [(102:UInt8),(114:UInt8),(111:UInt8),(109:UInt8)],AV.str [(103:UInt8),(114:UInt8),(111:UInt8),(117:UInt8),(112:UInt8)],AV.str [(104:UInt8),(111:UInt8),(108:UInt8),(100:UInt8)],AV.str [(105:UInt8),(102:UInt8)],AV.str [(105:UInt8),(110:UInt8),(115:UInt8),(101:UInt8),(114:UInt8),(116:UInt8)],AV.str [(105:UInt8),(110:UInt8),(116:UInt8)],AV.str [(105:UInt8),(110:UInt8),(116:UInt8),(101:UInt8),(114:UInt8),(115:UInt8),(101:UInt8),(99:UInt8),(116:UInt8)],AV.str [(105:UInt8),(110:UInt8),(116:UInt8),(111:UInt8)],AV.str [(105:UInt8),(115:UInt8)],AV.str [(106:UInt8),(111:UInt8),(105:UInt8),(110:UInt8)],AV.str [(107:UInt8),(101:UInt8),(121:UInt8)],AV.str [(108:UInt8),(101:UInt8),(102:UInt8),(116:UInt8)],AV.str [(108:UInt8),(101:UInt8),(110:UInt8),(103:UInt8),(116:UInt8),(104:UInt8)],AV.str [(108:UInt8),(105:UInt8),(109:UInt8),(105:UInt8),(116:UInt8)],AV.str [(109:UInt8),(97:UInt8),(120:UInt8)],AV.str [(109:UInt8),(101:UInt8),(101:UInt8),(116:UInt8),(115:UInt8)],AV.str [(109:UInt8),(101:UInt8),(116:UInt8),(98:UInt8),(121:UInt8)],AV.str [(109:UInt8),(105:UInt8),(110:UInt8)],AV.str [(110:UInt8),(111:UInt8),(110:UInt8),(115:UInt8),(101:UInt8),(113:UInt8),(117:UInt8),(101:UInt8),(110:UInt8),(99:UInt8),(101:UInt8),(100:UInt8)],AV.str [(110:UInt8),(111:UInt8),(116:UInt8)],AV.str [(110:UInt8),(111:UInt8),(119:UInt8)],AV.str [(110:UInt8),(117:UInt8),(108:UInt8),(108:UInt8)],AV.str [(111:UInt8),(102:UInt8)],AV.str [(111:UInt8),(110:UInt8)],AV.str [(111:UInt8),(114:UInt8)],AV.str [(111:UInt8),(114:UInt8),(100:UInt8),(101:UInt8),(114:UInt8)],AV.str [(111:UInt8),(118:UInt8),(101:UInt8),(114:UInt8),(108:UInt8),(97:UInt8),(112:UInt8),(112:UInt8),(101:UInt8),(100:UInt8),(98:UInt8),(121:UInt8)],AV.str [(111:UInt8),(118:UInt8),(101:UInt8),(114:UInt8),(108:UInt8),(97:UInt8),(112:UInt8),(115:UInt8)],AV.str [(112:UInt8),(114:UInt8),(105:UInt8),(109:UInt8),(97:UInt8),(114:UInt8),(121:UInt8)],AV.str [(112:UInt8),(114:UInt8),(117:UInt8),(110:UInt8),(101:UInt8)],AV.str [(114:UInt8),(101:UInt8),(102:UInt8),(101:UInt8),(114:UInt8),(101:UInt8),(110:UInt8),(99:UInt8),(101:UInt8),(115:UInt8)],AV.str [(114:UInt8),(101:UInt8),(108:UInt8),(101:UInt8),(97:UInt8),(115:UInt8),(101:UInt8)],AV.str [(114:UInt8),(101:UInt8),(110:UInt8),(97:UInt8),(109:UInt8),(101:UInt8)],AV.str [(114:UInt8),(101:UInt8),(116:UInt8),(97:UInt8),(105:UInt8),(110:UInt8)],AV.str [(114:UInt8),(111:UInt8),(108:UInt8),(108:UInt8),(98:UInt8),(97:UInt8),(99:UInt8),(107:UInt8)],AV.str [(115:UInt8),(101:UInt8),(108:UInt8),(101:UInt8),(99:UInt8),(116:UInt8)],AV.str [(115:UInt8),(101:UInt8),(113:UInt8),(117:UInt8),(101:UInt8),(110:UInt8),(99:UInt8),(101:UInt8),(100:UInt8)],AV.str [(115:UInt8),(101:UInt8),(116:UInt8)],AV.str [(115:UInt8),(116:UInt8),(97:UInt8),(114:UInt8),(116:UInt8),(101:UInt8),(100:UInt8),(98:UInt8),(121:UInt8)],AV.str [(115:UInt8),(116:UInt8),(97:UInt8),(114:UInt8),(116:UInt8),(115:UInt8)],AV.str [(115:UInt8),(117:UInt8),(109:UInt8)],AV.str [(115:UInt8),(121:UInt8),(115:UInt8),(116:UInt8),(101:UInt8),(109:UInt8)],AV.str [(115:UInt8),(121:UInt8),(115:UInt8),(116:UInt8),(101:UInt8),(109:UInt8),(102:UInt8),(114:UInt8),(111:UInt8),(109:UInt8)],AV.str [(115:UInt8),(121:UInt8),(115:UInt8),(116:UInt8),(101:UInt8),(109:UInt8),(116:UInt8),(111:UInt8)],AV.str [(116:UInt8),(97:UInt8),(98:UInt8),(108:UInt8),(101:UInt8)],AV.str [(116:UInt8),(101:UInt8),(120:UInt8),(116:UInt8)],AV.str [(116:UInt8),(111:UInt8)],AV.str [(116:UInt8),(114:UInt8),(117:UInt8),(101:UInt8)],AV.str [(116:UInt8),(120:UInt8)],AV.str [(117:UInt8),(110:UInt8),(100:UInt8),(101:UInt8),(114:UInt8)],AV.str [(117:UInt8),(110:UInt8),(105:UInt8),(111:UInt8),(110:UInt8)],AV.str [(117:UInt8),(112:UInt8),(100:UInt8),(97:UInt8),(116:UInt8),(101:UInt8)],AV.str [(118:UInt8),(97:UInt8),(108:UInt8),(105:UInt8),(100:UInt8)],AV.str [(118:UInt8),(97:UInt8),(108:UInt8),(105:UInt8),(100:UInt8),(102:UInt8),(114:UInt8),(111:UInt8),(109:UInt8)],AV.str [(118:UInt8),(97:UInt8),(108:UInt8),(105:UInt8),(100:UInt8),(116:UInt8),(111:UInt8)],AV.str [(118:UInt8),(97:UInt8),(108:UInt8),(117:UInt8),(101:UInt8),(115:UInt8)],AV.str [(119:UInt8),(104:UInt8),(101:UInt8),(114:UInt8),(101:UInt8)]]))
def xzq {T:Type} (δ:T) (κ:LA->T):T:=κ ([AV.str [(97:UInt8),(100:UInt8),(100:UInt8)],AV.str [(97:UInt8),(102:UInt8),(116:UInt8),(101:UInt8),(114:UInt8)],AV.str [(97:UInt8),(108:UInt8),(108:UInt8)],AV.str [(97:UInt8),(108:UInt8),(116:UInt8),(101:UInt8),(114:UInt8)],AV.str [(97:UInt8),(110:UInt8),(100:UInt8)],AV.str [(97:UInt8),(115:UInt8)],AV.str [(98:UInt8),(101:UInt8),(102:UInt8),(111:UInt8),(114:UInt8),(101:UInt8)],AV.str [(98:UInt8),(101:UInt8),(103:UInt8),(105:UInt8),(110:UInt8)],AV.str [(98:UInt8),(101:UInt8),(116:UInt8),(119:UInt8),(101:UInt8),(101:UInt8),(110:UInt8)],AV.str [(98:UInt8),(111:UInt8),(111:UInt8),(108:UInt8)],AV.str [(98:UInt8),(121:UInt8)],AV.str [(99:UInt8),(104:UInt8),(101:UInt8),(99:UInt8),(107:UInt8)],AV.str [(99:UInt8),(111:UInt8),(97:UInt8),(108:UInt8),(101:UInt8),(115:UInt8),(99:UInt8),(101:UInt8)],AV.str [(99:UInt8),(111:UInt8),(109:UInt8),(109:UInt8),(105:UInt8),(116:UInt8)],AV.str [(99:UInt8),(111:UInt8),(110:UInt8),(116:UInt8),(97:UInt8),(105:UInt8),(110:UInt8),(115:UInt8)],AV.str [(99:UInt8),(111:UInt8),(117:UInt8),(110:UInt8),(116:UInt8)],AV.str [(99:UInt8),(114:UInt8),(101:UInt8),(97:UInt8),(116:UInt8),(101:UInt8)],AV.str [(100:UInt8),(101:UInt8),(102:UInt8),(97:UInt8),(117:UInt8),(108:UInt8),(116:UInt8)],AV.str [(100:UInt8),(101:UInt8),(108:UInt8),(101:UInt8),(116:UInt8),(101:UInt8)],AV.str [(100:UInt8),(101:UInt8),(115:UInt8),(99:UInt8)],AV.str [(100:UInt8),(105:UInt8),(115:UInt8),(116:UInt8),(105:UInt8),(110:UInt8),(99:UInt8),(116:UInt8)],AV.str [(100:UInt8),(114:UInt8),(111:UInt8),(112:UInt8)],AV.str [(100:UInt8),(117:UInt8),(114:UInt8),(105:UInt8),(110:UInt8),(103:UInt8)],AV.str [(101:UInt8),(113:UInt8),(117:UInt8),(97:UInt8),(108:UInt8),(115:UInt8)],AV.str [(101:UInt8),(120:UInt8),(99:UInt8),(101:UInt8),(112:UInt8),(116:UInt8)],AV.str [(102:UInt8),(97:UInt8),(108:UInt8),(115:UInt8),(101:UInt8)],AV.str [(102:UInt8),(105:UInt8),(110:UInt8),(105:UInt8),(115:UInt8),(104:UInt8),(101:UInt8),(100:UInt8),(98:UInt8),(121:UInt8)],AV.str [(102:UInt8),(105:UInt8),(110:UInt8),(105:UInt8),(115:UInt8),(104:UInt8),(101:UInt8),(115:UInt8)],AV.str [(102:UInt8),(111:UInt8),(114:UInt8),(101:UInt8),(105:UInt8),(103:UInt8),(110:UInt8)],AV.str [(102:UInt8),(111:UInt8),(114:UInt8),(101:UInt8),(118:UInt8),(101:UInt8),(114:UInt8)],AV.str [(102:UInt8),(114:UInt8),(111:UInt8),(109:UInt8)],AV.str [(103:UInt8),(114:UInt8),(111:UInt8),(117:UInt8),(112:UInt8)],AV.str [(104:UInt8),(111:UInt8),(108:UInt8),(100:UInt8)],AV.str [(105:UInt8),(102:UInt8)],AV.str [(105:UInt8),(110:UInt8),(115:UInt8),(101:UInt8),(114:UInt8),(116:UInt8)],AV.str [(105:UInt8),(110:UInt8),(116:UInt8)],AV.str [(105:UInt8),(110:UInt8),(116:UInt8),(101:UInt8),(114:UInt8),(115:UInt8),(101:UInt8),(99:UInt8),(116:UInt8)],AV.str [(105:UInt8),(110:UInt8),(116:UInt8),(111:UInt8)],AV.str [(105:UInt8),(115:UInt8)],AV.str [(106:UInt8),(111:UInt8),(105:UInt8),(110:UInt8)],AV.str [(107:UInt8),(101:UInt8),(121:UInt8)],AV.str [(108:UInt8),(101:UInt8),(102:UInt8),(116:UInt8)],AV.str [(108:UInt8),(101:UInt8),(110:UInt8),(103:UInt8),(116:UInt8),(104:UInt8)],AV.str [(108:UInt8),(105:UInt8),(109:UInt8),(105:UInt8),(116:UInt8)],AV.str [(109:UInt8),(97:UInt8),(120:UInt8)],AV.str [(109:UInt8),(101:UInt8),(101:UInt8),(116:UInt8),(115:UInt8)],AV.str [(109:UInt8),(101:UInt8),(116:UInt8),(98:UInt8),(121:UInt8)],AV.str [(109:UInt8),(105:UInt8),(110:UInt8)],AV.str [(110:UInt8),(111:UInt8),(110:UInt8),(115:UInt8),(101:UInt8),(113:UInt8),(117:UInt8),(101:UInt8),(110:UInt8),(99:UInt8),(101:UInt8),(100:UInt8)],AV.str [(110:UInt8),(111:UInt8),(116:UInt8)],AV.str [(110:UInt8),(111:UInt8),(119:UInt8)],AV.str [(110:UInt8),(117:UInt8),(108:UInt8),(108:UInt8)],AV.str [(111:UInt8),(102:UInt8)],AV.str [(111:UInt8),(110:UInt8)],AV.str [(111:UInt8),(114:UInt8)],AV.str [(111:UInt8),(114:UInt8),(100:UInt8),(101:UInt8),(114:UInt8)],AV.str [(111:UInt8),(118:UInt8),(101:UInt8),(114:UInt8),(108:UInt8),(97:UInt8),(112:UInt8),(112:UInt8),(101:UInt8),(100:UInt8),(98:UInt8),(121:UInt8)],AV.str [(111:UInt8),(118:UInt8),(101:UInt8),(114:UInt8),(108:UInt8),(97:UInt8),(112:UInt8),(115:UInt8)],AV.str [(112:UInt8),(114:UInt8),(105:UInt8),(109:UInt8),(97:UInt8),(114:UInt8),(121:UInt8)],AV.str [(112:UInt8),(114:UInt8),(117:UInt8),(110:UInt8),(101:UInt8)],AV.str [(114:UInt8),(101:UInt8),(102:UInt8),(101:UInt8),(114:UInt8),(101:UInt8),(110:UInt8),(99:UInt8),(101:UInt8),(115:UInt8)],AV.str [(114:UInt8),(101:UInt8),(108:UInt8),(101:UInt8),(97:UInt8),(115:UInt8),(101:UInt8)],AV.str [(114:UInt8),(101:UInt8),(110:UInt8),(97:UInt8),(109:UInt8),(101:UInt8)],AV.str [(114:UInt8),(101:UInt8),(116:UInt8),(97:UInt8),(105:UInt8),(110:UInt8)],AV.str [(114:UInt8),(111:UInt8),(108:UInt8),(108:UInt8),(98:UInt8),(97:UInt8),(99:UInt8),(107:UInt8)],AV.str [(115:UInt8),(101:UInt8),(108:UInt8),(101:UInt8),(99:UInt8),(116:UInt8)],AV.str [(115:UInt8),(101:UInt8),(113:UInt8),(117:UInt8),(101:UInt8),(110:UInt8),(99:UInt8),(101:UInt8),(100:UInt8)],AV.str [(115:UInt8),(101:UInt8),(116:UInt8)],AV.str [(115:UInt8),(116:UInt8),(97:UInt8),(114:UInt8),(116:UInt8),(101:UInt8),(100:UInt8),(98:UInt8),(121:UInt8)],AV.str [(115:UInt8),(116:UInt8),(97:UInt8),(114:UInt8),(116:UInt8),(115:UInt8)],AV.str [(115:UInt8),(117:UInt8),(109:UInt8)],AV.str [(115:UInt8),(121:UInt8),(115:UInt8),(116:UInt8),(101:UInt8),(109:UInt8)],AV.str [(115:UInt8),(121:UInt8),(115:UInt8),(116:UInt8),(101:UInt8),(109:UInt8),(102:UInt8),(114:UInt8),(111:UInt8),(109:UInt8)],AV.str [(115:UInt8),(121:UInt8),(115:UInt8),(116:UInt8),(101:UInt8),(109:UInt8),(116:UInt8),(111:UInt8)],AV.str [(116:UInt8),(97:UInt8),(98:UInt8),(108:UInt8),(101:UInt8)],AV.str [(116:UInt8),(101:UInt8),(120:UInt8),(116:UInt8)],AV.str [(116:UInt8),(111:UInt8)],AV.str [(116:UInt8),(114:UInt8),(117:UInt8),(101:UInt8)],AV.str [(116:UInt8),(120:UInt8)],AV.str [(117:UInt8),(110:UInt8),(100:UInt8),(101:UInt8),(114:UInt8)],AV.str [(117:UInt8),(110:UInt8),(105:UInt8),(111:UInt8),(110:UInt8)],AV.str [(117:UInt8),(112:UInt8),(100:UInt8),(97:UInt8),(116:UInt8),(101:UInt8)],AV.str [(118:UInt8),(97:UInt8),(108:UInt8),(105:UInt8),(100:UInt8)],AV.str [(118:UInt8),(97:UInt8),(108:UInt8),(105:UInt8),(100:UInt8),(102:UInt8),(114:UInt8),(111:UInt8),(109:UInt8)],AV.str [(118:UInt8),(97:UInt8),(108:UInt8),(105:UInt8),(100:UInt8),(116:UInt8),(111:UInt8)],AV.str [(118:UInt8),(97:UInt8),(108:UInt8),(117:UInt8),(101:UInt8),(115:UInt8)],AV.str [(119:UInt8),(104:UInt8),(101:UInt8),(114:UInt8),(101:UInt8)]])
def xDX:EO:=xGx.fT Tryz.func103 2 0 [] [] lk0 (fun _=>xzq none) xL6 (fun _=>xBB) (fun _ p=>(AV.list 1 p))
def xkR {T:Type} (l:LA) (a:List UInt8) (i:Int) (δ:T) (κl:(Int)->T) (κr:(Bool×(Bool)×(Unit))->T):T:=br (decide (i<l.length)) (br (ixI l i) (br (decide (i.toNat<l.length)&&xLj Sh.str (gC l i 0)) (br ((gC l i 0).toStr==a) (κr (true,(true),())) (κl (i64.wrap (i+1)))) δ) δ) (κr (false,false,()))
def xcW (l:LA) (a:List UInt8):StT (Int) (Bool×(Bool)×(Unit)):=fun (i)=>xkR l a i none inL inR
def xrO:=xDX.l 18 0 [] [] Tryz.f102 0 lk0 [0,1,5] [4] [] (q3 (qL 1) pStr qI) xL5 (fun (l,a,i,_) _=>(xcW l a,(i),fun p=>(.node p.1 (.leaf .ret [AV.bool p.2.1] []) (.leaf (.exit 0) [.top] [])))) (false,false,()) fun (l,a,_,_) _ (i)=>(((l,a,i,()),()),xkR l a i none)
def xsp {T:Type} (l:LA) (a:List UInt8) (δ:T) (κ:Bool->T):T:=br ((Iter (xcW l a) 0).isSome) (br (((Iter (xcW l a) 0).getD (false,false,())).fst) (κ (((Iter (xcW l a) 0).getD (false,false,())).snd.fst)) (κ (false))) δ
def xu8 (l:LA) (a:List UInt8):=xsp l a none some
def xDY:EO:=xDX.f Tryz.func102 18 0 [] [(2,xrO.lp)] (lk1 xrO.ok) (u2 (uL 1) (sEq pStr)) (fun (l,a,_) _=>xsp l a) (fun _ p=>AV.bool p) false
def xhb {T:Type} (a:List UInt8) (i:Int) (κl:(Int)->T) (κr:(Bool×(Bool)×(Unit))->T):T:=br (!(↑(a.getD i.toNat (0:UInt8)).toNat:Int)==95) (κr (true,(false),())) (κl (i64.wrap (i+1)))
def xha {T:Type} (a:List UInt8) (i:Int) (κl:(Int)->T) (κr:(Bool×(Bool)×(Unit))->T):T:=br (decide ((↑(a.getD i.toNat (0:UInt8)).toNat:Int)>=48)) (br (decide ((↑(a.getD i.toNat (0:UInt8)).toNat:Int)<=57)) (κl (i64.wrap (i+1))) (xhb a i κl κr)) (xhb a i κl κr)
def xi6 {T:Type} (a:List UInt8) (i:Int) (δ:T) (κl:(Int)->T) (κr:(Bool×(Bool)×(Unit))->T):T:=br (decide (i<a.length)) (br (decide (0<=i)&&decide (i<a.length)) (br (decide ((↑(a.getD i.toNat (0:UInt8)).toNat:Int)>=97)) (br (decide ((↑(a.getD i.toNat (0:UInt8)).toNat:Int)<=122)) (κl (i64.wrap (i+1))) (xha a i κl κr)) (xha a i κl κr)) δ) (κr (false,false,()))
def xcd (a:List UInt8):StT (Int) (Bool×(Bool)×(Unit)):=fun (i)=>xi6 a i none inL inR
def xp6:=xDY.l 54 0 [] [] Tryz.f76 0 lk0 [0,3] [0,2] [] (q2 pStr qI) xL5 (fun (a,i,_) _=>(xcd a,(i),fun p=>(.node p.1 (.leaf .ret [AV.str a,AV.bool p.2.1] []) (.leaf (.exit 0) [AV.str a,.top] [])))) (false,false,()) fun (a,_,_) _ (i)=>(((a,i,()),()),xi6 a i none)
def xoQ (a:List UInt8):=xu8 [AV.str [(97:UInt8),(100:UInt8),(100:UInt8)],AV.str [(97:UInt8),(102:UInt8),(116:UInt8),(101:UInt8),(114:UInt8)],AV.str [(97:UInt8),(108:UInt8),(108:UInt8)],AV.str [(97:UInt8),(108:UInt8),(116:UInt8),(101:UInt8),(114:UInt8)],AV.str [(97:UInt8),(110:UInt8),(100:UInt8)],AV.str [(97:UInt8),(115:UInt8)],AV.str [(98:UInt8),(101:UInt8),(102:UInt8),(111:UInt8),(114:UInt8),(101:UInt8)],AV.str [(98:UInt8),(101:UInt8),(103:UInt8),(105:UInt8),(110:UInt8)],AV.str [(98:UInt8),(101:UInt8),(116:UInt8),(119:UInt8),(101:UInt8),(101:UInt8),(110:UInt8)],AV.str [(98:UInt8),(111:UInt8),(111:UInt8),(108:UInt8)],AV.str [(98:UInt8),(121:UInt8)],AV.str [(99:UInt8),(104:UInt8),(101:UInt8),(99:UInt8),(107:UInt8)],AV.str [(99:UInt8),(111:UInt8),(97:UInt8),(108:UInt8),(101:UInt8),(115:UInt8),(99:UInt8),(101:UInt8)],AV.str [(99:UInt8),(111:UInt8),(109:UInt8),(109:UInt8),(105:UInt8),(116:UInt8)],AV.str [(99:UInt8),(111:UInt8),(110:UInt8),(116:UInt8),(97:UInt8),(105:UInt8),(110:UInt8),(115:UInt8)],AV.str [(99:UInt8),(111:UInt8),(117:UInt8),(110:UInt8),(116:UInt8)],AV.str [(99:UInt8),(114:UInt8),(101:UInt8),(97:UInt8),(116:UInt8),(101:UInt8)],AV.str [(100:UInt8),(101:UInt8),(102:UInt8),(97:UInt8),(117:UInt8),(108:UInt8),(116:UInt8)],AV.str [(100:UInt8),(101:UInt8),(108:UInt8),(101:UInt8),(116:UInt8),(101:UInt8)],AV.str [(100:UInt8),(101:UInt8),(115:UInt8),(99:UInt8)],AV.str [(100:UInt8),(105:UInt8),(115:UInt8),(116:UInt8),(105:UInt8),(110:UInt8),(99:UInt8),(116:UInt8)],AV.str [(100:UInt8),(114:UInt8),(111:UInt8),(112:UInt8)],AV.str [(100:UInt8),(117:UInt8),(114:UInt8),(105:UInt8),(110:UInt8),(103:UInt8)],AV.str [(101:UInt8),(113:UInt8),(117:UInt8),(97:UInt8),(108:UInt8),(115:UInt8)],AV.str [(101:UInt8),(120:UInt8),(99:UInt8),(101:UInt8),(112:UInt8),(116:UInt8)],AV.str [(102:UInt8),(97:UInt8),(108:UInt8),(115:UInt8),(101:UInt8)],AV.str [(102:UInt8),(105:UInt8),(110:UInt8),(105:UInt8),(115:UInt8),(104:UInt8),(101:UInt8),(100:UInt8),(98:UInt8),(121:UInt8)],AV.str [(102:UInt8),(105:UInt8),(110:UInt8),(105:UInt8),(115:UInt8),(104:UInt8),(101:UInt8),(115:UInt8)],AV.str [(102:UInt8),(111:UInt8),(114:UInt8),(101:UInt8),(105:UInt8),(103:UInt8),(110:UInt8)],AV.str [(102:UInt8),(111:UInt8),(114:UInt8),(101:UInt8),(118:UInt8),(101:UInt8),(114:UInt8)],AV.str [(102:UInt8),(114:UInt8),(111:UInt8),(109:UInt8)],AV.str [(103:UInt8),(114:UInt8),(111:UInt8),(117:UInt8),(112:UInt8)],AV.str [(104:UInt8),(111:UInt8),(108:UInt8),(100:UInt8)],AV.str [(105:UInt8),(102:UInt8)],AV.str [(105:UInt8),(110:UInt8),(115:UInt8),(101:UInt8),(114:UInt8),(116:UInt8)],AV.str [(105:UInt8),(110:UInt8),(116:UInt8)],AV.str [(105:UInt8),(110:UInt8),(116:UInt8),(101:UInt8),(114:UInt8),(115:UInt8),(101:UInt8),(99:UInt8),(116:UInt8)],AV.str [(105:UInt8),(110:UInt8),(116:UInt8),(111:UInt8)],AV.str [(105:UInt8),(115:UInt8)],AV.str [(106:UInt8),(111:UInt8),(105:UInt8),(110:UInt8)],AV.str [(107:UInt8),(101:UInt8),(121:UInt8)],AV.str [(108:UInt8),(101:UInt8),(102:UInt8),(116:UInt8)],AV.str [(108:UInt8),(101:UInt8),(110:UInt8),(103:UInt8),(116:UInt8),(104:UInt8)],AV.str [(108:UInt8),(105:UInt8),(109:UInt8),(105:UInt8),(116:UInt8)],AV.str [(109:UInt8),(97:UInt8),(120:UInt8)],AV.str [(109:UInt8),(101:UInt8),(101:UInt8),(116:UInt8),(115:UInt8)],AV.str [(109:UInt8),(101:UInt8),(116:UInt8),(98:UInt8),(121:UInt8)],AV.str [(109:UInt8),(105:UInt8),(110:UInt8)],AV.str [(110:UInt8),(111:UInt8),(110:UInt8),(115:UInt8),(101:UInt8),(113:UInt8),(117:UInt8),(101:UInt8),(110:UInt8),(99:UInt8),(101:UInt8),(100:UInt8)],AV.str [(110:UInt8),(111:UInt8),(116:UInt8)],AV.str [(110:UInt8),(111:UInt8),(119:UInt8)],AV.str [(110:UInt8),(117:UInt8),(108:UInt8),(108:UInt8)],AV.str [(111:UInt8),(102:UInt8)],AV.str [(111:UInt8),(110:UInt8)],AV.str [(111:UInt8),(114:UInt8)],AV.str [(111:UInt8),(114:UInt8),(100:UInt8),(101:UInt8),(114:UInt8)],AV.str [(111:UInt8),(118:UInt8),(101:UInt8),(114:UInt8),(108:UInt8),(97:UInt8),(112:UInt8),(112:UInt8),(101:UInt8),(100:UInt8),(98:UInt8),(121:UInt8)],AV.str [(111:UInt8),(118:UInt8),(101:UInt8),(114:UInt8),(108:UInt8),(97:UInt8),(112:UInt8),(115:UInt8)],AV.str [(112:UInt8),(114:UInt8),(105:UInt8),(109:UInt8),(97:UInt8),(114:UInt8),(121:UInt8)],AV.str [(112:UInt8),(114:UInt8),(117:UInt8),(110:UInt8),(101:UInt8)],AV.str [(114:UInt8),(101:UInt8),(102:UInt8),(101:UInt8),(114:UInt8),(101:UInt8),(110:UInt8),(99:UInt8),(101:UInt8),(115:UInt8)],AV.str [(114:UInt8),(101:UInt8),(108:UInt8),(101:UInt8),(97:UInt8),(115:UInt8),(101:UInt8)],AV.str [(114:UInt8),(101:UInt8),(110:UInt8),(97:UInt8),(109:UInt8),(101:UInt8)],AV.str [(114:UInt8),(101:UInt8),(116:UInt8),(97:UInt8),(105:UInt8),(110:UInt8)],AV.str [(114:UInt8),(111:UInt8),(108:UInt8),(108:UInt8),(98:UInt8),(97:UInt8),(99:UInt8),(107:UInt8)],AV.str [(115:UInt8),(101:UInt8),(108:UInt8),(101:UInt8),(99:UInt8),(116:UInt8)],AV.str [(115:UInt8),(101:UInt8),(113:UInt8),(117:UInt8),(101:UInt8),(110:UInt8),(99:UInt8),(101:UInt8),(100:UInt8)],AV.str [(115:UInt8),(101:UInt8),(116:UInt8)],AV.str [(115:UInt8),(116:UInt8),(97:UInt8),(114:UInt8),(116:UInt8),(101:UInt8),(100:UInt8),(98:UInt8),(121:UInt8)],AV.str [(115:UInt8),(116:UInt8),(97:UInt8),(114:UInt8),(116:UInt8),(115:UInt8)],AV.str [(115:UInt8),(117:UInt8),(109:UInt8)],AV.str [(115:UInt8),(121:UInt8),(115:UInt8),(116:UInt8),(101:UInt8),(109:UInt8)],AV.str [(115:UInt8),(121:UInt8),(115:UInt8),(116:UInt8),(101:UInt8),(109:UInt8),(102:UInt8),(114:UInt8),(111:UInt8),(109:UInt8)],AV.str [(115:UInt8),(121:UInt8),(115:UInt8),(116:UInt8),(101:UInt8),(109:UInt8),(116:UInt8),(111:UInt8)],AV.str [(116:UInt8),(97:UInt8),(98:UInt8),(108:UInt8),(101:UInt8)],AV.str [(116:UInt8),(101:UInt8),(120:UInt8),(116:UInt8)],AV.str [(116:UInt8),(111:UInt8)],AV.str [(116:UInt8),(114:UInt8),(117:UInt8),(101:UInt8)],AV.str [(116:UInt8),(120:UInt8)],AV.str [(117:UInt8),(110:UInt8),(100:UInt8),(101:UInt8),(114:UInt8)],AV.str [(117:UInt8),(110:UInt8),(105:UInt8),(111:UInt8),(110:UInt8)],AV.str [(117:UInt8),(112:UInt8),(100:UInt8),(97:UInt8),(116:UInt8),(101:UInt8)],AV.str [(118:UInt8),(97:UInt8),(108:UInt8),(105:UInt8),(100:UInt8)],AV.str [(118:UInt8),(97:UInt8),(108:UInt8),(105:UInt8),(100:UInt8),(102:UInt8),(114:UInt8),(111:UInt8),(109:UInt8)],AV.str [(118:UInt8),(97:UInt8),(108:UInt8),(105:UInt8),(100:UInt8),(116:UInt8),(111:UInt8)],AV.str [(118:UInt8),(97:UInt8),(108:UInt8),(117:UInt8),(101:UInt8),(115:UInt8)],AV.str [(119:UInt8),(104:UInt8),(101:UInt8),(114:UInt8),(101:UInt8)]] a
def xny {T:Type} (a:List UInt8) (δ:T) (κ:Bool->T):T:=br ((Iter (xcd a) 0).isSome) (br (((Iter (xcd a) 0).getD (false,false,())).fst) (κ (((Iter (xcd a) 0).getD (false,false,())).snd.fst)) (br ((xoQ a).isSome) (κ (!(xoQ a).getD false)) δ)) δ
def xp7 {T:Type} (a:List UInt8) (δ:T) (κ:Bool->T):T:=br (a==[]) (κ (false)) (br (decide ((↑a.length:Int)>24)) (κ (false)) (br (decide (0<(↑a.length:Int))) (br (decide ((↑(a.getD 0 (0:UInt8)).toNat:Int)>=48)) (br (decide (0<(↑a.length:Int))) (br (decide ((↑(a.getD 0 (0:UInt8)).toNat:Int)<=57)) (κ (false)) (xny a δ κ)) δ) (xny a δ κ)) δ))
def xgD (a:List UInt8):=xp7 a none some
def xzE:EO:=xDY.f Tryz.func76 54 0 [] [(4,xp6.lp)] (lk1 xp6.ok) (u1 (sEq pStr)) (fun (a,_) _=>xp7 a) (fun _ p=>AV.bool p) false
def xh3 {T:Type} (b:Nat) (i:Int) (d:List UInt8) (c e f g a:LA) (δ:T) (κl:(Nat×Int×List UInt8×LA×LA×LA×LA×LA)->T) (κr:(Nat×LA)->T):T:=br (decide (i<c.length)) (br (ixI c i) (br (ixS c i (Sh.int .i64) 1) (br (rmB b a 1 8) (κl (b+1,i64.wrap (i+1),d,c,e,f,g,a++[AV.int .i64 (gC c i 1).toInt])) δ) δ) δ) (κr (b,a))
def xcN:StT (Nat×Int×List UInt8×LA×LA×LA×LA×LA) (Nat×LA):=fun (b,i,c,d,e,f,g,a)=>xh3 b i c d e f g a none inL inR
def xo2:=xzE.l 23 0 [] [] Tryz.f51 0 lk0 [1,3,4] [3] [(3,1,3)] (q3 (xMg 0 0 0 0) (xMf 1 0 0) qI) (q2 (qB 0 5 27 (q1 (xMh (q5 pStr (qL 3) (qL 1) (qL 2) (qL 7))))) (qB 0 1 3 xL7)) (fun (_,b,i,_) (((c,d,e,f,g,_),_),a,_)=>(xcN,(b,i,c,d,e,f,g,a),fun p=>(.leaf (.exit 0) [AV.osl 0 0 0 p.1] [bF 0 1 3 p.2]))) (0,[]) fun _ _ (b,i,c,d,e,f,g,a)=>((((),b,i,()),(((c,d,e,f,g,()),()),a,())),xh3 b i c d e f g a none)
def xnw (e:List UInt8) (b a c d:LA):=Iter xcN (0,0,e,b,a,c,d,[])
def xnv (e:List UInt8) (b a c d:LA):=(xnw e b a c d).getD (0,[])
def xnt (e:List UInt8) (b a c d:LA):=(xnv e b a c d).snd
def xnu (e:List UInt8) (b a c d:LA):=(xnv e b a c d).fst
def xoP {T:Type} (e:List UInt8) (b a c d:LA) (δ:T) (κ:LA->T):T:=br ((xnw e b a c d).isSome) (br (decide (0+xnu e b a c d<=(xnt e b a c d).length)&&true) (κ (List.take (xnu e b a c d) (List.drop 0 (xnt e b a c d)))) δ) δ
def xgZ (e:List UInt8) (b a c d:LA):=xoP e b a c d none some
def xzp:LA->Option (Bool×AV):=fnO (u1 (xMk (u5 (sEq pStr) (uL 3) (uL 1) (uL 2) (uL 7)))) (fun ((e,b,a,c,d,_),_) _=>xoP e b a c d) (fun _ p=>AV.list 1 p) []
theorem xsN:OcOk P0 xL2 51 xzp:=fnC xzE.ok Tryz.func51 23 0 [] [(3,xo2.lp)] (lk1 xo2.ok)
def xDZ:EO:=xzE.w xsN
def xi5 {T:Type} (b:List UInt8) (i:Int) (c:List UInt8) (a d e f:LA) (δ:T) (κl:(Int×List UInt8×LA×LA×LA×LA)->T) (κr:(Bool×(Int)×(Unit))->T):T:=br (decide (i<a.length)) (br (ixI a i) (br (decide (i.toNat<a.length)&&xLj Sh.str (gC a i 0)) (br ((gC a i 0).toStr==b) (κr (true,(i),())) (κl (i64.wrap (i+1),c,a,d,e,f))) δ) δ) (κr (false,0,()))
def xc6 (a:List UInt8):StT (Int×List UInt8×LA×LA×LA×LA) (Bool×(Int)×(Unit)):=fun (i,b,c,d,e,f)=>xi5 a i b c d e f none inL inR
def xp4:=xDZ.l 22 0 [] [] Tryz.f104 0 lk0 [1,2,5] [4] [] (q3 pStr (xMg 0 0 0 0) qI) (q1 (qB 0 5 27 (q1 (xMh (q5 pStr (qL 3) (qL 1) (qL 2) (qL 7)))))) (fun (a,_,i,_) (((b,c,d,e,f,_),_),_)=>(xc6 a,(i,b,c,d,e,f),fun p=>(.node p.1 (.leaf .ret [AV.int .i64 p.2.1] []) (.leaf (.exit 0) [.top] [])))) (false,0,()) fun (a,_,_,_) _ (i,b,c,d,e,f)=>(((a,(),i,()),(((b,c,d,e,f,()),()),())),xi5 a i b c d e f none)
def xoO (e:List UInt8) (b a c d:LA) (f:List UInt8):=Iter (xc6 f) (0,e,b,a,c,d)
def xoN (e:List UInt8) (b a c d:LA) (f:List UInt8):=(xoO e b a c d f).getD (false,0,())
def xp5 {T:Type} (e:List UInt8) (b a c d:LA) (f:List UInt8) (δ:T) (κ:Int->T):T:=br ((xoO e b a c d f).isSome) (br ((xoN e b a c d f).fst) (κ ((xoN e b a c d f).snd.fst)) (κ ((-1)))) δ
def xpl (e:List UInt8) (b a c d:LA) (f:List UInt8):=xp5 e b a c d f none some
def xIk:EO:=xDZ.f Tryz.func104 22 0 [] [(2,xp4.lp)] (lk1 xp4.ok) (u2 (xMk (u5 (sEq pStr) (uL 3) (uL 1) (uL 2) (uL 7))) (sEq pStr)) (fun ((e,b,a,c,d,_),g,_) _=>xp5 e b a c d g) (fun _ p=>AV.int .i64 p) 0
def xjA (e:List UInt8) (a b c d:LA) (i:Int):Bool:=(br (decide (i>=0)) ((decide (i<a.length))) ((false)))
def xwH {T:Type} (e:List UInt8) (a b c d:LA) (i:Int) (δ:T) (κ:Bool->T):T:=br (decide (i>=0)) (κ (decide (i<a.length))) (κ (false))
def xDx:EO:=xIk.fT Tryz.func105 14 0 [] [] lk0 (fun ((e,b,a,c,d,_),i,_)=>xwH e b a c d i none) (u2 (xMk (u5 (sEq pStr) (uL 3) (uL 1) (uL 2) (uL 7))) uI) (fun ((e,b,a,c,d,_),i,_)=>xjA e b a c d i) (fun _ p=>(AV.bool p))
def xgE {T:Type} (i:Int) (b:List UInt8) (a c d e:LA) (δ:T) (κl:(Int×List UInt8×LA×LA×LA×LA)->T) (κr:(Bool×(Int)×(Unit))->T):T:=br (decide (i<a.length)) (br (ixI a i) (br (ixT a i 3 [Sh.str,Sh.int .i64,Sh.bool] 0) (br ((xgD (gC a i 0).toStr).isSome) (br (!(xgD (gC a i 0).toStr).getD false) (κr (true,(1),())) (br (decide ((gC a i 1).toInt<1)) (κr (true,(7),())) (br (decide ((gC a i 1).toInt>3)) (κr (true,(7),())) (br ((xpl b a c d e (gC a i 0).toStr).isSome) (br (decide ((xpl b a c d e (gC a i 0).toStr).getD 0<i)) (κr (true,(10),())) (κl (i64.wrap (i+1),b,a,c,d,e))) δ)))) δ) δ) δ) (κr (false,0,()))
def xb0:StT (Int×List UInt8×LA×LA×LA×LA) (Bool×(Int)×(Unit)):=fun (i,a,b,c,d,e)=>xgE i a b c d e none inL inR
def xmO:=xDx.l 45 0 [] [] Tryz.f77 0 lk0 [1,3] [2] [] (q2 (xMg 0 0 0 0) qI) (q1 (qB 0 5 27 (q1 (xMh (q5 pStr (qL 3) (qL 1) (qL 2) (qL 7)))))) (fun (_,i,_) (((a,b,c,d,e,_),_),_)=>(xb0,(i,a,b,c,d,e),fun p=>(.node p.1 (.leaf .ret [AV.int .i64 p.2.1] []) (.leaf (.exit 0) [.top] [])))) (false,0,()) fun _ _ (i,a,b,c,d,e)=>((((),i,()),(((a,b,c,d,e,()),()),())),xgE i a b c d e none)
def xlg (e:List UInt8) (b a c d:LA):=Iter xb0 (0,e,b,a,c,d)
def xlf (e:List UInt8) (b a c d:LA):=(xlg e b a c d).getD (false,0,())
def xmv {T:Type} (e:List UInt8) (a b c d:LA) (δ:T) (κ:Int->T):T:=br (decide ((↑a.length:Int)<1)) (κ (13)) (br (decide ((↑a.length:Int)>12)) (κ (13)) (br ((xlg e a b c d).isSome) (br ((xlf e a b c d).fst) (κ ((xlf e a b c d).snd.fst)) (κ (0))) δ))
def xgc (e:List UInt8) (b a c d:LA):=xmv e b a c d none some
def xD0:EO:=xDx.f Tryz.func77 45 0 [] [(4,xmO.lp)] (lk1 xmO.ok) (u1 (xMk (u5 (sEq pStr) (uL 3) (uL 1) (uL 2) (uL 7)))) (fun ((e,b,a,c,d,_),_) _=>xmv e b a c d) (fun _ p=>AV.int .i64 p) 0
def xem (i:Int) (a:LA):=ixI a i
def xen (i:Int) (a:LA):=decide (i.toNat<a.length)&&xLj (Sh.int .i64) (gC a i 0)
def xbD (i:Int) (a:LA):=(gC a i 0).toInt
def xdR {T:Type} (i:Int) (c:List UInt8) (b a d e:LA) (δ:T) (κl:(Int×List UInt8×LA×LA×LA×LA)->T) (κr:(Bool×(Int)×(Unit))->T):T:=br (xem i a) (br (xen i a) (br (decide (0<=xbD i a)&&decide (xbD i a<b.length)) (br (decide ((xbD i a).toNat<b.length)&&xLj Sh.bool ((b.getD (xbD i a).toNat .top).cells.getD 2 .top)) (br (((b.getD (xbD i a).toNat .top).cells.getD 2 .top).toBool) (κr (true,(12),())) (κl (i64.wrap (i+1),c,b,a,d,e))) δ) δ) δ) δ
def xfi {T:Type} (i:Int) (b:List UInt8) (c a d e:LA) (δ:T) (κl:(Int×List UInt8×LA×LA×LA×LA)->T) (κr:(Bool×(Int)×(Unit))->T):T:=br (decide (i<a.length)) (br (xem i a) (br (xen i a) (br (!xjA b c a d e (xbD i a)) (κr (true,(25),())) (br (decide (i>0)) (br (xem i a) (br (xen i a) (br (decide (0<=i64.wrap (i - 1))&&decide (i64.wrap (i - 1)<(↑a.length:Int))) (br (decide ((i64.wrap (i - 1)).toNat<a.length)&&xLj (Sh.int .i64) ((a.getD (i64.wrap (i - 1)).toNat .top).cells.getD 0 .top)) (br (decide (xbD i a<=((a.getD (i64.wrap (i - 1)).toNat .top).cells.getD 0 .top).toInt)) (κr (true,(25),())) (xdR i b c a d e δ κl κr)) δ) δ) δ) δ) (xdR i b c a d e δ κl κr))) δ) δ) (κr (false,0,()))
def xbQ:StT (Int×List UInt8×LA×LA×LA×LA) (Bool×(Int)×(Unit)):=fun (i,a,b,c,d,e)=>xfi i a b c d e none inL inR
def xqP:=xD0.l 51 0 [] [] Tryz.f78 0 lk0 [1,3] [2] [] (q2 (xMg 0 0 0 0) qI) (q1 (qB 0 5 27 (q1 (xMh (q5 pStr (qL 3) (qL 1) (qL 2) (qL 7)))))) (fun (_,i,_) (((a,b,c,d,e,_),_),_)=>(xbQ,(i,a,b,c,d,e),fun p=>(.node p.1 (.leaf .ret [AV.int .i64 p.2.1] []) (.leaf (.exit 0) [.top] [])))) (false,0,()) fun _ _ (i,a,b,c,d,e)=>((((),i,()),(((a,b,c,d,e,()),()),())),xfi i a b c d e none)
def xp9 (e:List UInt8) (b a c d:LA):=Iter xbQ (0,e,b,a,c,d)
def xp8 (e:List UInt8) (b a c d:LA):=(xp9 e b a c d).getD (false,0,())
def xrk {T:Type} (e:List UInt8) (b a c d:LA) (δ:T) (κ:Int->T):T:=br ((↑a.length:Int)==0) (κ (25)) (br ((xp9 e b a c d).isSome) (br ((xp8 e b a c d).fst) (κ ((xp8 e b a c d).snd.fst)) (κ (0))) δ)
def xoh (e:List UInt8) (b a c d:LA):=xrk e b a c d none some
def xzF:EO:=xD0.f Tryz.func78 51 0 [] [(4,xqP.lp)] (lk1 xqP.ok) (u1 (xMk (u5 (sEq pStr) (uL 3) (uL 1) (uL 2) (uL 7)))) (fun ((e,b,a,c,d,_),_) _=>xrk e b a c d) (fun _ p=>AV.int .i64 p) 0
def xgF {T:Type} (i k:Int) (b:List UInt8) (c d e f a:LA) (g:List UInt8) (δ:T) (κl:(Int×List UInt8×LA×LA×LA×LA×LA×List UInt8)->T) (κr:(Bool×(Int×List UInt8×LA×LA×LA×LA×LA×List UInt8)×(List UInt8×LA×LA×LA×LA×LA×List UInt8))->T):T:=br (decide (k<i)) (br (ixI a k) (br (ixS a k (Sh.int .i64) 0) (br (ixI a i) (br (ixS a i (Sh.int .i64) 0) (br ((gC a k 0).toInt==(gC a i 0).toInt) (κr (true,(25,b,c,d,e,f,a,g),([],[],[],[],[],[],[]))) (κl (i64.wrap (k+1),b,c,d,e,f,a,g))) δ) δ) δ) δ) (κr (false,(0,[],[],[],[],[],[],[]),(b,c,d,e,f,a,g)))
def xb1 (i:Int):StT (Int×List UInt8×LA×LA×LA×LA×LA×List UInt8) (Bool×(Int×List UInt8×LA×LA×LA×LA×LA×List UInt8)×(List UInt8×LA×LA×LA×LA×LA×List UInt8)):=fun (k,a,b,c,d,e,f,g)=>xgF i k a b c d e f g none inL inR
def xfO:=xzF.l 46 0 [] [] Tryz.f106 1 lk0 [2,3,5,6] [2,3,4,5] [] (q4 (xMg 0 0 0 0) (xMg 1 0 0 0) qI qI) (q2 (qB 0 5 27 (q1 (xMh (q5 pStr (qL 3) (qL 1) (qL 2) (qL 7))))) (qB 0 2 149 (q1 (xMh (q2 (qL 1) pStr))))) (fun (_,_,i,k,_) (((a,b,c,d,e,_),_),((f,g,_),_),_)=>(xb1 i,(k,a,b,c,d,e,f,g),fun p=>(.node p.1 (.leaf .ret [AV.own 0 0 0 0,AV.own 1 0 0 0,AV.int .i64 p.2.1.1,AV.int .i64 i] [bF 0 5 27 [AV.agg [AV.str p.2.1.2.1,AV.list 3 p.2.1.2.2.1,AV.list 1 p.2.1.2.2.2.1,AV.list 2 p.2.1.2.2.2.2.1,AV.list 7 p.2.1.2.2.2.2.2.1]],bF 0 2 149 [AV.agg [AV.list 1 p.2.1.2.2.2.2.2.2.1,AV.str p.2.1.2.2.2.2.2.2.2]]]) (.leaf (.exit 2) [AV.own 0 0 0 0,AV.own 1 0 0 0,.top,AV.int .i64 i] [bF 0 5 27 [AV.agg [AV.str p.2.2.1,AV.list 3 p.2.2.2.1,AV.list 1 p.2.2.2.2.1,AV.list 2 p.2.2.2.2.2.1,AV.list 7 p.2.2.2.2.2.2.1]],bF 0 2 149 [AV.agg [AV.list 1 p.2.2.2.2.2.2.2.1,AV.str p.2.2.2.2.2.2.2.2]]])))) (false,(0,[],[],[],[],[],[],[]),([],[],[],[],[],[],[])) fun (_,_,i,_,_) _ (k,a,b,c,d,e,f,g)=>((((),(),i,k,()),(((a,b,c,d,e,()),()),((f,g,()),()),())),xgF i k a b c d e f g none)
def xiX (i:Int) (a:List UInt8) (b c d e f:LA) (g:List UInt8):=Iter (xb1 i) (0,a,b,c,d,e,f,g)
def xiW (i:Int) (a:List UInt8) (b c d e f:LA) (g:List UInt8):=(xiX i a b c d e f g).getD (false,(0,[],[],[],[],[],[],[]),[],[],[],[],[],[],[])
def xiV (i:Int) (a:List UInt8) (b c d e f:LA) (g:List UInt8):=(xiW i a b c d e f g).snd
def xiU (i:Int) (a:List UInt8) (b c d e f:LA) (g:List UInt8):=(xiV i a b c d e f g).snd
def xiT (i:Int) (a:List UInt8) (b c d e f:LA) (g:List UInt8):=(xiU i a b c d e f g).snd
def xiS (i:Int) (a:List UInt8) (b c d e f:LA) (g:List UInt8):=(xiT i a b c d e f g).snd
def xiR (i:Int) (a:List UInt8) (b c d e f:LA) (g:List UInt8):=(xiS i a b c d e f g).snd
def xiQ (i:Int) (a:List UInt8) (b c d e f:LA) (g:List UInt8):=(xiR i a b c d e f g).snd
def xiP (i:Int) (a:List UInt8) (b c d e f:LA) (g:List UInt8):=(xiQ i a b c d e f g).snd
def xeb {T:Type} (i:Int) (b:List UInt8) (c d e f a:LA) (g:List UInt8) (δ:T) (κl:(Int×List UInt8×LA×LA×LA×LA×LA×List UInt8)->T) (κr:(Bool×(Int)×(Unit))->T):T:=br (decide (i<a.length)) (br (ixI a i) (br (ixS a i (Sh.int .i64) 0) (br (!xjA b c d e f (gC a i 0).toInt) (κr (true,(25),())) (br ((xiX i b c d e f a g).isSome) (br ((xiW i b c d e f a g).fst) (κr (true,((xiV i b c d e f a g).fst.fst),())) (κl (i64.wrap (i+1),(xiU i b c d e f a g).fst,(xiT i b c d e f a g).fst,(xiS i b c d e f a g).fst,(xiR i b c d e f a g).fst,(xiQ i b c d e f a g).fst,(xiP i b c d e f a g).fst,(xiP i b c d e f a g).snd))) δ)) δ) δ) (κr (false,0,()))
def xbA:StT (Int×List UInt8×LA×LA×LA×LA×LA×List UInt8) (Bool×(Int)×(Unit)):=fun (i,a,b,c,d,e,f,g)=>xeb i a b c d e f g none inL inR
def xmP:=xzF.l 46 0 [] [(11,xfO.lp)] Tryz.f106 0 (lk1 xfO.ok) [2,3,5] [4] [] (q3 (xMg 0 0 0 0) (xMg 1 0 0 0) qI) (q2 (qB 0 5 27 (q1 (xMh (q5 pStr (qL 3) (qL 1) (qL 2) (qL 7))))) (qB 0 2 149 (q1 (xMh (q2 (qL 1) pStr))))) (fun (_,_,i,_) (((a,b,c,d,e,_),_),((f,g,_),_),_)=>(xbA,(i,a,b,c,d,e,f,g),fun p=>(.node p.1 (.leaf .ret [AV.int .i64 p.2.1] []) (.leaf (.exit 0) [.top] [])))) (false,0,()) fun _ _ (i,a,b,c,d,e,f,g)=>((((),(),i,()),(((a,b,c,d,e,()),()),((f,g,()),()),())),xeb i a b c d e f g none)
def xli (e:List UInt8) (b a c d f:LA) (g:List UInt8):=Iter xbA (0,e,b,a,c,d,f,g)
def xlh (e:List UInt8) (b a c d f:LA) (g:List UInt8):=(xli e b a c d f g).getD (false,0,())
def xmw {T:Type} (g:List UInt8) (c a d e f:LA) (b:List UInt8) (δ:T) (κ:Int->T):T:=br ((xgD b).isSome) (br (!(xgD b).getD false) (κ (1)) (br ((↑f.length:Int)==0) (κ (25)) (br ((xli g c a d e f b).isSome) (br ((xlh g c a d e f b).fst) (κ ((xlh g c a d e f b).snd.fst)) (κ (0))) δ))) δ
def xiB (e:List UInt8) (b a c d f:LA) (g:List UInt8):=xmw e b a c d f g none some
def xzG:EO:=xzF.f Tryz.func106 46 0 [] [(11,xfO.lp),(6,xmP.lp)] (lks (lkC xmP.ok (lkC xfO.ok lkN))) (u2 (xMk (u5 (sEq pStr) (uL 3) (uL 1) (uL 2) (uL 7))) (xMk (u2 (uL 1) (sEq pStr)))) (fun ((e,b,a,c,d,_),(g,h,_),_) _=>xmw e b a c d g h) (fun _ p=>AV.int .i64 p) 0
def xd0 {T:Type} (i:Int) (b:List UInt8) (c d a e:LA) (δ:T) (κl:(Int×List UInt8×LA×LA×LA×LA)->T) (κr:(Bool×(Int×List UInt8×LA×LA×LA×LA)×(List UInt8×LA×LA×LA×LA))->T):T:=br (decide (i<a.length)) (br (ixI a i) (br (ixT a i 2 [Sh.list 1,Sh.str] 0) (br ((xiB b c d a e (gC a i 0).toList (gC a i 1).toStr).isSome) (br ((xiB b c d a e (gC a i 0).toList (gC a i 1).toStr).getD 0 != 0) (κr (true,((xiB b c d a e (gC a i 0).toList (gC a i 1).toStr).getD 0,b,c,d,a,e),([],[],[],[],[]))) (κl (i64.wrap (i+1),b,c,d,a,e))) δ) δ) δ) (κr (false,(0,[],[],[],[],[]),(b,c,d,a,e)))
def xbm:StT (Int×List UInt8×LA×LA×LA×LA) (Bool×(Int×List UInt8×LA×LA×LA×LA)×(List UInt8×LA×LA×LA×LA)):=fun (i,a,b,c,d,e)=>xd0 i a b c d e none inL inR
def xf2:=xzG.l 60 0 [] [] Tryz.f79 0 lk0 [1,3] [1,2] [] (q2 (xMg 0 0 0 0) qI) (q1 (qB 0 5 27 (q1 (xMh (q5 pStr (qL 3) (qL 1) (qL 2) (qL 7)))))) (fun (_,i,_) (((a,b,c,d,e,_),_),_)=>(xbm,(i,a,b,c,d,e),fun p=>(.node p.1 (.leaf .ret [AV.own 0 0 0 0,AV.int .i64 p.2.1.1] [bF 0 5 27 [AV.agg [AV.str p.2.1.2.1,AV.list 3 p.2.1.2.2.1,AV.list 1 p.2.1.2.2.2.1,AV.list 2 p.2.1.2.2.2.2.1,AV.list 7 p.2.1.2.2.2.2.2]]]) (.leaf (.exit 0) [AV.own 0 0 0 0,.top] [bF 0 5 27 [AV.agg [AV.str p.2.2.1,AV.list 3 p.2.2.2.1,AV.list 1 p.2.2.2.2.1,AV.list 2 p.2.2.2.2.2.1,AV.list 7 p.2.2.2.2.2.2]]])))) (false,(0,[],[],[],[],[]),([],[],[],[],[])) fun _ _ (i,a,b,c,d,e)=>((((),i,()),(((a,b,c,d,e,()),()),())),xd0 i a b c d e none)
def xf6 (i:Int) (b:List UInt8) (c d e a:LA):=xrg (gC a i 0).toInt (gC a i 1).toInt (gC a i 2).toInt (gC a i 3).toInt (gC a i 4).toStr (gC a i 5).toStr (gC a i 6).toList ((xgZ b c d e a).getD [])
def xf5 (i:Int) (a:List UInt8) (b c d e:LA):=(xf6 i a b c d e).getD (0,0)
def xf3 (i:Int) (a:List UInt8) (b c d e:LA):=(xf5 i a b c d e).fst
def xf4 (i:Int) (a:List UInt8) (b c d e:LA):=(xf5 i a b c d e).snd
def xd1 {T:Type} (i:Int) (b:List UInt8) (c d e a:LA) (δ:T) (κl:(Int×List UInt8×LA×LA×LA×LA)->T) (κr:(Bool×(Int)×(Unit))->T):T:=br (decide (i<a.length)) (br (ixI a i) (br (ixT a i 7 [Sh.int .i64,Sh.int .i64,Sh.int .i64,Sh.int .i64,Sh.str,Sh.str,Sh.list 7] 0) (br ((xgZ b c d e a).isSome) (br ((xf6 i b c d e a).isSome) (br (xf4 i b c d e a != 0) (κr (true,(xf4 i b c d e a),())) (br (xf3 i b c d e a != 3) (br (xf3 i b c d e a != 0) (κr (true,(7),())) (κl (i64.wrap (i+1),b,c,d,e,a))) (κl (i64.wrap (i+1),b,c,d,e,a)))) δ) δ) δ) δ) (κr (false,0,()))
def xbn:StT (Int×List UInt8×LA×LA×LA×LA) (Bool×(Int)×(Unit)):=fun (i,a,b,c,d,e)=>xd1 i a b c d e none inL inR
def xka:=xzG.l 60 0 [] [(4,xf2.lp)] Tryz.f79 1 lk0 [1,5] [2] [] (q2 (xMg 0 0 0 0) qI) (q1 (qB 0 5 27 (q1 (xMh (q5 pStr (qL 3) (qL 1) (qL 2) (qL 7)))))) (fun (_,i,_) (((a,b,c,d,e,_),_),_)=>(xbn,(i,a,b,c,d,e),fun p=>(.node p.1 (.leaf .ret [AV.int .i64 p.2.1] []) (.leaf (.exit 2) [.top] [])))) (false,0,()) fun _ _ (i,a,b,c,d,e)=>((((),i,()),(((a,b,c,d,e,()),()),())),xd1 i a b c d e none)
def xid (e:List UInt8) (b a c d:LA):=Iter xbm (0,e,b,a,c,d)
def xic (e:List UInt8) (b a c d:LA):=(xid e b a c d).getD (false,(0,[],[],[],[],[]),[],[],[],[],[])
def xib (e:List UInt8) (b a c d:LA):=(xic e b a c d).snd
def xia (e:List UInt8) (b a c d:LA):=(xib e b a c d).snd
def xh9 (e:List UInt8) (b a c d:LA):=(xia e b a c d).snd
def xh8 (e:List UInt8) (b a c d:LA):=(xh9 e b a c d).snd
def xh7 (e:List UInt8) (b a c d:LA):=(xh8 e b a c d).snd
def xh6 (e:List UInt8) (b a c d:LA):=(xh7 e b a c d).snd
def xh5 (e:List UInt8) (b a c d:LA):=Iter xbn (0,(xia e b a c d).fst,(xh9 e b a c d).fst,(xh8 e b a c d).fst,(xh7 e b a c d).fst,xh6 e b a c d)
def xh4 (e:List UInt8) (b a c d:LA):=(xh5 e b a c d).getD (false,0,())
def xiO {T:Type} (e:List UInt8) (c a b d:LA) (δ:T) (κ:Int->T):T:=br (decide ((↑b.length:Int)>4)) (κ (5)) (br ((xid e c a b d).isSome) (br ((xic e c a b d).fst) (κ ((xib e c a b d).fst.fst)) (br (decide ((↑(xh6 e c a b d).length:Int)>4)) (κ (5)) (br ((xh5 e c a b d).isSome) (br ((xh4 e c a b d).fst) (κ ((xh4 e c a b d).snd.fst)) (κ (0))) δ))) δ)
def xdu (e:List UInt8) (b a c d:LA):=xiO e b a c d none some
def xG0:EO:=xzG.f Tryz.func79 60 0 [] [(4,xf2.lp),(12,xka.lp)] (lks (lkC xf2.ok (lkC xka.ok lkN))) (u1 (xMk (u5 (sEq pStr) (uL 3) (uL 1) (uL 2) (uL 7)))) (fun ((e,b,a,c,d,_),_) _=>xiO e b a c d) (fun _ p=>AV.int .i64 p) 0
def xoM {T:Type} (e:List UInt8) (b a c d:LA) (δ:T) (κ:Int->T):T:=br ((xgD e).isSome) (br (!(xgD e).getD false) (κ (1)) (br ((xgc e b a c d).isSome) (br ((xgc e b a c d).getD 0==0) (br ((xoh e b a c d).isSome) (br ((xoh e b a c d).getD 0==0) (br ((xdu e b a c d).isSome) (κ ((xdu e b a c d).getD 0)) δ) (κ ((xoh e b a c d).getD 0))) δ) (br ((xgc e b a c d).getD 0==0) (br ((xdu e b a c d).isSome) (κ ((xdu e b a c d).getD 0)) δ) (κ ((xgc e b a c d).getD 0)))) δ)) δ
def xnW (e:List UInt8) (b a c d:LA):=xoM e b a c d none some
def xzo:LA->Option (Bool×AV):=fnO (u1 (xMk (u5 (sEq pStr) (uL 3) (uL 1) (uL 2) (uL 7)))) (fun ((e,b,a,c,d,_),_) _=>xoM e b a c d) (fun _ p=>AV.int .i64 p) 0
theorem xzn:OcOk P0 xL2 49 xzo:=fnC xG0.ok Tryz.func49 19 0 [] [] lk0
def xIn:EO:=xIe.w xsM
def xIo:EO:=xIn.w xzn
def xD1:EO:=xIo.w xsN
def xhx (a l:LA) (i:Int):=(xlc a (gC l i 0).toInt).getD (0,0,[])
def xhZ (a l:LA) (i:Int):=(xhx a l i).snd
def xi2 {T:Type} (c l:LA) (b:Nat) (i:Int) (a:LA) (δ:T) (κl:(Nat×Int×LA)->T) (κr:(Nat×LA)->T):T:=br (decide (i<l.length)) (br (ixI l i) (br (ixS l i (Sh.int .i64) 0) (br ((xlc c (gC l i 0).toInt).isSome) (br (rmB b a 1 32) (κl (b+1,i64.wrap (i+1),a++[AV.agg [AV.int .i64 (xhx c l i).fst,AV.int .i64 (xhZ c l i).fst,AV.str (xhZ c l i).snd]])) δ) δ) δ) δ) (κr (b,a))
def xc2 (c l:LA):StT (Nat×Int×LA) (Nat×LA):=fun (b,i,a)=>xi2 c l b i a none inL inR
def xpV:=xD1.l 24 0 [] [] Tryz.f48 0 lk0 [0,1,5,6] [5] [(5,3,64)] (q4 (qL 3) (qL 1) (xMf 0 0 0) qI) (q1 (qB 0 3 64 xL7)) (fun (c,l,b,i,_) (a,_)=>(xc2 c l,(b,i,a),fun p=>(.leaf (.exit 0) [AV.osl 0 0 0 p.1] [bF 0 3 64 p.2]))) (0,[]) fun (c,l,_,_,_) _ (b,i,a)=>(((c,l,b,i,()),(a,())),xi2 c l b i a none)
def xoH (a l:LA):=(Iter (xc2 a l) (0,0,[])).getD (0,[])
def xoF (a l:LA):=(xoH a l).fst
def xoG (a l:LA):=(xoH a l).snd
def xpW {T:Type} (a l:LA) (δ:T) (κ:LA->T):T:=br ((Iter (xc2 a l) (0,0,[])).isSome) (br (decide (0+xoF a l<=(xoG a l).length)&&true) (κ (List.take (xoF a l) (List.drop 0 (xoG a l)))) δ) δ
def xpk (a l:LA):=xpW a l none some
def xDO:EO:=xD1.f Tryz.func48 24 0 [] [(3,xpV.lp)] (lk1 xpV.ok) (u2 (uL 3) (uL 1)) (fun (a,l,_) _=>xpW a l) (fun _ p=>AV.list 3 p) []
def xhY (a:LA) (i:Int):=ixI a i
def xld (a:LA) (i:Int):=xkH (gC a i 0).toInt (gC a i 1).toInt (gC a i 2).toStr
def xi1 {T:Type} (a b:LA) (i:Int) (δ:T) (κl:(Int)->T) (κr:(Bool×(Bool)×(Unit))->T):T:=br (decide (i<a.length)) (br (xhY a i) (br (ixT a i 3 [Sh.int .i64,Sh.int .i64,Sh.str] 0) (br ((xld a i).isSome) (br (!(xld a i).getD false) (κr (true,(false),())) (br (xhY a i) (br (ixS a i (Sh.int .i64) 0) (br ((gC a i 0).toInt != 0) (br (xhY a i) (br (ixS a i (Sh.int .i64) 0) (br (ixI b i) (br (ixS b i (Sh.int .i64) 0) (br ((gC a i 0).toInt != (gC b i 0).toInt) (κr (true,(false),())) (κl (i64.wrap (i+1)))) δ) δ) δ) δ) (κl (i64.wrap (i+1)))) δ) δ)) δ) δ) δ) (κr (false,false,()))
def xb6 (b a:LA):StT (Int) (Bool×(Bool)×(Unit)):=fun (i)=>xi1 b a i none inL inR
def xpS:=xDO.l 43 0 [] [] Tryz.f80 0 lk0 [0,1,5] [4] [] (q3 (qL 3) (qL 1) qI) xL5 (fun (b,a,i,_) _=>(xb6 b a,(i),fun p=>(.node p.1 (.leaf .ret [AV.bool p.2.1] []) (.leaf (.exit 0) [.top] [])))) (false,false,()) fun (b,a,_,_) _ (i)=>(((b,a,i,()),()),xi1 b a i none)
def xpT {T:Type} (b a:LA) (δ:T) (κ:Bool->T):T:=br ((↑b.length:Int) != (↑a.length:Int)) (κ (false)) (br ((Iter (xb6 b a) 0).isSome) (br (((Iter (xb6 b a) 0).getD (false,false,())).fst) (κ (((Iter (xb6 b a) 0).getD (false,false,())).snd.fst)) (κ (true))) δ)
def xpj (b a:LA):=xpT b a none some
def xIf:EO:=xDO.f Tryz.func80 43 0 [] [(4,xpS.lp)] (lk1 xpS.ok) (u2 (uL 3) (uL 1)) (fun (b,a,_) _=>xpT b a) (fun _ p=>AV.bool p) false
def xvV (k:Int):Bool:=(br (k==1) ((true)) (br (k==2) ((true)) ((k==3))))
def xAM {T:Type} (k:Int) (δ:T) (κ:Bool->T):T:=br (k==1) (κ (true)) (br (k==2) (κ (true)) (κ (k==3)))
def xDP:EO:=xIf.fT Tryz.func109 13 0 [] [] lk0 (fun (k,_)=>xAM k none) (u1 uI) (fun (k,_)=>xvV k) (fun _ p=>(AV.bool p))
def xie {T:Type} (l:LA) (i:Int) (δ:T) (κl:(Int)->T) (κr:(Bool×(Bool)×(Unit))->T):T:=br (decide (i<l.length)) (br (ixI l i) (br (ixS l i (Sh.int .i64) 0) (br (!xvV (gC l i 0).toInt) (κr (true,(false),())) (κl (i64.wrap (i+1)))) δ) δ) (κr (false,false,()))
def xbV (l:LA):StT (Int) (Bool×(Bool)×(Unit)):=fun (i)=>xie l i none inL inR
def xo3:=xDP.l 16 0 [] [] Tryz.f81 0 lk0 [0,3] [2] [] (q2 (qL 1) qI) xL5 (fun (l,i,_) _=>(xbV l,(i),fun p=>(.node p.1 (.leaf .ret [AV.bool p.2.1] []) (.leaf (.exit 0) [.top] [])))) (false,false,()) fun (l,_,_) _ (i)=>(((l,i,()),()),xie l i none)
def xoR {T:Type} (l:LA) (δ:T) (κ:Bool->T):T:=br ((Iter (xbV l) 0).isSome) (br (((Iter (xbV l) 0).getD (false,false,())).fst) (κ (((Iter (xbV l) 0).getD (false,false,())).snd.fst)) (κ (true))) δ
def xrl (l:LA):=xoR l none some
def xDQ:EO:=xDP.f Tryz.func81 16 0 [] [(2,xo3.lp)] (lk1 xo3.ok) (u1 (uL 1)) (fun (l,_) _=>xoR l) (fun _ p=>AV.bool p) false
def xif {T:Type} (i:Int) (b a:LA) (δ:T) (κl:(Int×LA×LA)->T) (κr:(Bool×(Bool×LA×LA)×(LA×LA))->T):T:=br (decide (i<a.length)) (br (ixI a i) (br (ixT a i 3 [Sh.int .i64,Sh.int .i64] 1) (br (!xe7 (gC a i 1).toInt (gC a i 2).toInt) (κr (true,(false,b,a),([],[]))) (br (ixI a i) (br (ixS a i (Sh.list 3) 0) (br ((xpj (gC a i 0).toList b).isSome) (br (!(xpj (gC a i 0).toList b).getD false) (κr (true,(false,b,a),([],[]))) (κl (i64.wrap (i+1),b,a))) δ) δ) δ)) δ) δ) (κr (false,(false,[],[]),(b,a)))
def xbW:StT (Int×LA×LA) (Bool×(Bool×LA×LA)×(LA×LA)):=fun (i,a,b)=>xif i a b none inL inR
def xo4:=xDQ.l 46 0 [] [] Tryz.f50 0 lk0 [1,3] [1,2] [] (q2 (xMg 0 0 0 0) qI) (q1 (qB 0 2 84 (q1 (xMh (q2 (qL 1) (qL 3)))))) (fun (_,i,_) (((a,b,_),_),_)=>(xbW,(i,a,b),fun p=>(.node p.1 (.leaf .ret [AV.own 0 0 0 0,AV.bool p.2.1.1] [bF 0 2 84 [AV.agg [AV.list 1 p.2.1.2.1,AV.list 3 p.2.1.2.2]]]) (.leaf (.exit 0) [AV.own 0 0 0 0,.top] [bF 0 2 84 [AV.agg [AV.list 1 p.2.2.1,AV.list 3 p.2.2.2]]])))) (false,(false,[],[]),([],[])) fun _ _ (i,a,b)=>((((),i,()),(((a,b,()),()),())),xif i a b none)
def xnE (a b:LA):=(Iter xbW (0,a,b)).getD (false,(false,[],[]),[],[])
def xnD (a b:LA):=(xnE a b).snd
def xnC (a b:LA):=(xnD a b).snd.fst
def xnA (a b:LA):=(↑(xnC a b).length:Int)
def xnB (a b:LA):=xrl (xnC a b)
def xoS {T:Type} (a b:LA) (δ:T) (κ:Bool->T):T:=br ((Iter xbW (0,a,b)).isSome) (br ((xnE a b).fst) (κ ((xnD a b).fst.fst)) (br (decide (xnA a b>0)) (br (decide (xnA a b<=48)) (br ((xnB a b).isSome) (κ ((xnB a b).getD false)) δ) (κ (false))) (κ (false)))) δ
def xnX (a b:LA):=xoS a b none some
def xIg:EO:=xDQ.f Tryz.func50 46 0 [] [(2,xo4.lp)] (lk1 xo4.ok) (u1 (xMk (u2 (uL 1) (uL 3)))) (fun ((a,b,_),_) _=>xoS a b) (fun _ p=>AV.bool p) false
def xea (l:LA) (i:Int):=ixI l i
def xkd {T:Type} (l a:LA) (i:Int) (δ:T) (κl:(LA×Int)->T) (κr:(LA)->T):T:=br (decide (i<l.length)) (br (xea l i) (br (ixT l i 2 [Sh.int .i64,Sh.int .i64] 0) (br (xe7 (gC l i 0).toInt (gC l i 1).toInt) (br (xea l i) (br (ixS l i (Sh.int .i64) 0) (br ((xbz a (gC l i 0).toInt).isSome) (br (xea l i) (br (ixS l i (Sh.int .i64) 1) (br ((xbz ((xbz a (gC l i 0).toInt).getD []) (gC l i 1).toInt).isSome) (κl ((xbz ((xbz a (gC l i 0).toInt).getD []) (gC l i 1).toInt).getD [],i64.wrap (i+1))) δ) δ) δ) δ) δ) δ) (κl (a,i64.wrap (i+1)))) δ) δ) (κr (a))
def xdl (l:LA):StT (LA×Int) (LA):=fun (a,i)=>xkd l a i none inL inR
def xrN {T:Type} (l:LA) (δ:T) (κ:LA->T):T:=br ((Iter (xdl l) ([],0)).isSome) (κ ((Iter (xdl l) ([],0)).getD [])) δ
def xpQ (l:LA):=xrN l none some
def xiN {T:Type} (l:LA) (t i:Int) (δ:T) (κl:(Int)->T) (κr:(Bool×(Bool)×(Unit))->T):T:=br (decide (i<l.length)) (br (ixI l i) (br (ixT l i 2 [Sh.int .i64,Sh.int .i64] 0) (br (xfd (gC l i 0).toInt (gC l i 1).toInt t) (κr (true,(true),())) (κl (i64.wrap (i+1)))) δ) δ) (κr (false,false,()))
def xbk (l:LA) (t:Int):StT (Int) (Bool×(Bool)×(Unit)):=fun (i)=>xiN l t i none inL inR
def xpO {T:Type} (l:LA) (t:Int) (δ:T) (κ:Bool->T):T:=br ((Iter (xbk l t) 0).isSome) (br (((Iter (xbk l t) 0).getD (false,false,())).fst) (κ (((Iter (xbk l t) 0).getD (false,false,())).snd.fst)) (κ (false))) δ
def xfe (l:LA) (t:Int):=xpO l t none some
def xdo (c:Int) (a b:Bool):Bool:=(br (c==1) (br (a) ((b)) ((false))) (br (c==2) (br (a) ((true)) ((b))) (br (c==3) (br (a) ((!b)) ((false))) (br (!a) ((!b)) ((false))))))
def xdm (a:LA) (i:Int):=decide (0<=i64.wrap (i - 1))&&decide (i64.wrap (i - 1)<(↑a.length:Int))
def xdn (a:LA) (i:Int):=decide ((i64.wrap (i - 1)).toNat<a.length)&&xLj (Sh.int .i64) ((a.getD (i64.wrap (i - 1)).toNat .top).cells.getD 0 .top)
def xbc (a:LA) (i:Int):=((a.getD (i64.wrap (i - 1)).toNat .top).cells.getD 0 .top).toInt
def xeV (c:LA) (b:Nat) (i:Int) (a:LA):=(xmh b (xbc c i) (gC c i 0).toInt a).getD (false,(0,[],[]),0,[])
def xeT (c:LA) (b:Nat) (i:Int) (a:LA):=(xeV c b i a).fst
def xeU (c:LA) (b:Nat) (i:Int) (a:LA):=(xeV c b i a).snd
def xeR (c:LA) (b:Nat) (i:Int) (a:LA):=(xeU c b i a).fst
def xeS (c:LA) (b:Nat) (i:Int) (a:LA):=(xeU c b i a).snd
def xfN {T:Type} (f:Int) (a b e:LA) (d:Nat) (i:Int) (c:LA) (δ:T) (κl:(Nat×Int×LA)->T) (κr:(Nat×LA)->T):T:=br (decide (i<e.length)) (br (xdm e i) (br (xdn e i) (br ((xfe a (xbc e i)).isSome) (br (xdm e i) (br (xdn e i) (br ((xfe b (xbc e i)).isSome) (br (xdo f ((xfe a (xbc e i)).getD false) ((xfe b (xbc e i)).getD false)) (br (xdm e i) (br (xdn e i) (br (ixI e i) (br (ixS e i (Sh.int .i64) 0) (br ((xmh d (xbc e i) (gC e i 0).toInt c).isSome) (κl (br (xeT e d i c) (xeR e d i c).fst (xeS e d i c).fst,i64.wrap (i+1),br (xeT e d i c) (xeR e d i c).snd.snd (xeS e d i c).snd)) δ) δ) δ) δ) δ) (κl (d,i64.wrap (i+1),c))) δ) δ) δ) δ) δ) δ) (κr (d,c))
def xbP (e:Int) (a b f:LA):StT (Nat×Int×LA) (Nat×LA):=fun (d,i,c)=>xfN e a b f d i c none inL inR
def xeG (a b:LA):Nat:=1+a.length+b.length
def xkj (a b:LA):LA:=[AV.agg [AV.int .i64 0,AV.int .i64 1099511627776]]++a++b
def xki (a b:LA):=xpQ (List.take (xeG a b) (List.drop 0 (xkj a b)))
def xkh (c:Int) (a b:LA):=Iter (xbP c a b ((xki a b).getD [])) (0,1,[])
def xkg (c:Int) (a b:LA):=(xkh c a b).getD (0,[])
def xke (c:Int) (a b:LA):=(xkg c a b).snd
def xkf (c:Int) (a b:LA):=(xkg c a b).fst
def xpR {T:Type} (c:Int) (a b:LA) (δ:T) (κ:LA->T):T:=br (decide ((1+a.length)*16<=140737488355328)&&decide (1+a.length<=4611686018427387904)) (br (1+a.length==([AV.agg [AV.int .i64 0,AV.int .i64 1099511627776]]++a).length&&(decide (xeG a b*16<=140737488355328)&&decide (xeG a b<=4611686018427387904))) (br (decide (0+xeG a b<=(xkj a b).length)&&true) (br ((xki a b).isSome) (br ((xkh c a b).isSome) (br (decide (0+xkf c a b<=(xke c a b).length)&&true) (κ (List.take (xkf c a b) (List.drop 0 (xke c a b)))) δ) δ) δ) δ) δ) δ
def xj0 (c:Int) (a b:LA):=xpR c a b none some
def xo1 {T:Type} (a b:LA) (δ:T) (κ:LA->T):T:=br ((xj0 1 a b).isSome) (κ ((xj0 1 a b).getD [])) δ
def xqM (a b:LA):=xo1 a b none some
def xmz {T:Type} (e:List UInt8) (b a c d l:LA) (δ:T) (κ:Bool->T):T:=br ((xnW e b a c d).isSome) (br ((xnW e b a c d).getD 0==0) (br ((xgZ e b a c d).isSome) (br ((xnX ((xgZ e b a c d).getD []) l).isSome) (κ ((xnX ((xgZ e b a c d).getD []) l).getD false)) δ) δ) (κ (false))) δ
def xkT (e:List UInt8) (b a c d l:LA):=xmz e b a c d l none some
def xIl:EO:=xIg.f Tryz.func28 15 0 [] [] lk0 (u2 (xMk (u5 (sEq pStr) (uL 3) (uL 1) (uL 2) (uL 7))) (uL 3)) (fun ((e,b,a,c,d,_),l,_) _=>xmz e b a c d l) (fun _ p=>AV.bool p) false
def xrr {T:Type} (f:List UInt8) (c a d e b:LA) (δ:T) (κ:LA->T):T:=br ((xpk b a).isSome) (κ ((xpk b a).getD [])) δ
def xlz (e:List UInt8) (b a c d f:LA):=xrr e b a c d f none some
def xIm:EO:=xIl.f Tryz.func26 9 0 [] [] lk0 (u2 (xMk (u5 (sEq pStr) (uL 3) (uL 1) (uL 2) (uL 7))) (uL 3)) (fun ((e,b,a,c,d,_),g,_) _=>xrr e b a c d g) (fun _ p=>AV.list 3 p) []
def xHZ:EO:=xDI.w xAS
def xa8 (r:LA) (e:List UInt8) (b a c d:LA):=(xgf ((xdq e b a c d r).getD [])).getD []
def xlW (r:LA) (f t:Int) (e:List UInt8) (b a c d g:LA):=decide ((xa8 r e b a c d).length<=4611686018427387904)
def xdZ (r:LA) (f:List UInt8) (b a c d e:LA):=((e.getD (putIx e (xa8 r f b a c d)) .top).cells.getD 1 .top).toList.length
def xpc (r:LA) (f t:Int) (g:List UInt8) (b a c d e:LA):=((e.getD (putIx e (xa8 r g b a c d)) .top).cells.getD 1 .top).toList++[AV.agg [AV.int .i64 f,AV.int .i64 t,AV.int .i64 1]]
def xlX (r:LA) (f:List UInt8) (c a d e b:LA):=b.set (putIx b (xa8 r f c a d e)) (AV.agg (List.take 1 (b.getD (putIx b (xa8 r f c a d e)) .top).cells++[AV.int .i64 (↑(xdZ r f c a d e b):Int)]++List.drop 2 (b.getD (putIx b (xa8 r f c a d e)) .top).cells))
def xjP (r:LA) (e:List UInt8) (b a c d f:LA):=xdZ r e b a c d f+1
def xqE {T:Type} (r:LA) (f t:Int) (g:List UInt8) (b a c d e:LA) (δ:T) (κ:LA->T):T:=br ((xdq g b a c d r).isSome) (br ((xgf ((xdq g b a c d r).getD [])).isSome) (br (xlW r f t g b a c d e) (br (xLQ e (xa8 r g b a c d)) (br (xL0 3 ((e.getD (putIx e (xa8 r g b a c d)) .top).cells.getD 1 .top)) (br (decide (putIx e (xa8 r g b a c d)<e.length)&&(xL0 3 ((e.getD (putIx e (xa8 r g b a c d)) .top).cells.getD 1 .top)&&((e.getD (putIx e (xa8 r g b a c d)) .top).cells.length==2&&(2*xdZ r g b a c d e==2*xdZ r g b a c d e&&(xdZ r g b a c d e==xdZ r g b a c d e&&(xdZ r g b a c d e==xdZ r g b a c d e&&(decide (xjP r g b a c d e*24<=140737488355328)&&decide (xjP r g b a c d e<=4611686018427387904)))))))) (br (xjP r g b a c d e==(xpc r f t g b a c d e).length&&(decide ((xlX r g b a c d e).length<4611686018427387904)&&(xlW r f t g b a c d e&&deadR (xlX r g b a c d e) (xa8 r g b a c d) (xjP r g b a c d e)))) (κ (xLC (xlX r g b a c d e) (xa8 r g b a c d) (AV.list 3 (xpc r f t g b a c d e)))) δ) δ) δ) (br (decide (e.length<4611686018427387904)&&(xlW r f t g b a c d e&&deadR e (xa8 r g b a c d) 1)) (κ (xLC e (xa8 r g b a c d) (AV.list 3 [AV.agg [AV.int .i64 f,AV.int .i64 t,AV.int .i64 1]]))) δ)) δ) δ) δ
def crowds1 (r:LA) (f t:Int) (e:List UInt8) (b a c d g:LA):=xqE r f t e b a c d g none some
def xn0:EO:=xHZ.fM Tryz.func52 20 1 [1000058,8000000] [] lk0 (u3 (xMk (u3 (uL 3) uI uI)) (sEq (xMm 5 0 0 (q1 (xMh (q5 pStr (qL 3) (qL 1) (qL 2) (qL 7)))))) (sEq (xLJ (1099511627776:FuncId) (q1 (xMg 0 0 0 0))))) (q1 (qB 0 2 1208926202420975661744128 xL7)) (fun ((r,f,t,_),((e,b,a,c,d,_),_),(_,_),_) (g,_) _=>xqE r f t e b a c d g) (fun _ _ p=>(AV.tuple [],([bF 0 2 1208926202420975661744128 p]:List Box))) []
end Go.Sim.M
