/- Part 13 of the proof of the law. -/
import Derived.Test.YtcekkkdjdfiipaaGreatDoorUP12
import Derived.StillTailTactics
set_option linter.unusedVariables false
set_option linter.unusedSimpArgs false
set_option maxRecDepth 100000
noncomputable section
namespace Go.Sim.M
abbrev TyE:Type:=Fin 1099511627777×Int×Int
def intsE (x:TyE):List Int:=[(x.1.val:Int),x.2.1,x.2.2]
def cmpE (x y:TyE):Int:=(x.1.val:Int) - (y.1.val:Int)
end Go.Sim.M
namespace Go.Proofs
open Go.RowKit Go.Sim Go.Sim.M Go.Sort
set_option maxHeartbeats 1000000 in
theorem Tryz.walkE (a b c a' b' c' r:Int) (hr:IntKind.i64.wrap (a - a')=r) (W:World):Calls Tryz.prog 116 #[.agg #[.int .i64 a,.int .i64 b,.int .i64 c],.agg #[.int .i64 a',.int .i64 b',.int .i64 c']] W fun e w'=>e=.returned (.int .i64 r)/\∃ q os',w'=Sort.grow (W.drewN q) os':=by
 go_enter Tryz.func116,Tryz.ntmps116
 go_wp2
 go_ret
 subst hr;exact ⟨rfl,0,_,by rw [alloc_eq_grow,alloc_eq_grow,grow_grow];rfl⟩
end Go.Proofs
namespace Go.Sim.M
open Go.RowKit Go.Proofs Go.Sort
def isE:AV->Bool
 | .agg [.int .i64 a,.int .i64 _,.int .i64 _]=>decide (0<=a)&&decide (a<=1099511627776)
 | _=>false
def decE:AV->TyE
 | .agg [.int _ a,.int _ b,.int _ c]=>(Fin.ofNat 1099511627777 a.toNat,b,c)
 | _=>default
noncomputable def srtE (xs:List AV):List AV:=(pdqL cmpE (xs.map decE)).map (encI intsE)
theorem xDm {x:AV} (h:isE x=true):encI intsE (decE x)=x:=by
 unfold isE at h;split at h
 . rename_i a b c;simp only [Bool.and_eq_true,decide_eq_true_eq] at h;have:a.toNat % 1099511627777=a.toNat:=Nat.mod_eq_of_lt (by omega)
   simp only [decE,encI,intsE,List.map_cons,List.map_nil,Fin.ofNat,this,Int.toNat_of_nonneg h.1]
 . simp at h
theorem xBx {xs:List AV} (h:xs.all isE=true):(xs.map decE).map (encI intsE)=xs:=by
 rw [List.map_map]
 conv=>rhs;rw [<-List.map_id xs]
 refine List.map_congr_left fun x hx=>?_
 exact xDm (List.all_eq_true.1 h x hx)
theorem ltE (x y:TyE):ltOf cmpE x y=decide (x.1.val<y.1.val):=by
 unfold ltOf cmpE;by_cases h:x.1.val<y.1.val
 . rw [decide_eq_true h,decide_eq_true (by omega)]
 . rw [decide_eq_false h,decide_eq_false (by omega)]
theorem swoE:SWO (ltOf cmpE) where
 irrefl x:=by rw [ltE];simp
 trans x y z h1 h2:=by rw [ltE] at *;simp at *;omega
 ntrans x y z h1 h2:=by rw [ltE] at *;simp at *;omega
noncomputable def xuP:List AV->List Box->Option (Bool×AV×List Box)
 | [.osl (.b 0) ver 0 n,.func g []],[⟨ver',3,ty,xs,false,true⟩]=>match Nat.beq g 116&&Nat.beq ty 132 with
  | true=>some (Nat.beq ver ver'&&(Nat.beq n xs.length&&(decide (n<4611686018427387904)&&xs.all isE)),.tuple [],[⟨ver',3,132,srtE xs,false,true⟩])
  | false=>none
 | _,_=>none
theorem xFg:OmOk Tryz.prog xJt 115 xuP:=fun Q H r H' h=>by
 unfold xuP at h;split at h
 . rename_i ver n g O ty xs;split at h
   case h_2=>simp at h
   rename_i hg;simp only [Bool.and_eq_true] at hg;obtain rfl:=Nat.eq_of_beq_eq_true hg.1;obtain rfl:=Nat.eq_of_beq_eq_true hg.2;simp only [Option.some.injEq,Prod.mk.injEq,Bool.and_eq_true,decide_eq_true_eq] at h;obtain ⟨⟨h1,h2,h3,h4⟩,rfl,rfl⟩:=h;obtain rfl:=Nat.eq_of_beq_eq_true h1;obtain rfl:=Nat.eq_of_beq_eq_true h2;have q:∃ ti,xIM Tryz.prog 132=some ti/\ti.sz=3/\ti.agg=true:=by
    have h:(match xIM Tryz.prog 132 with|some ti=>(ti.sz==3)&&ti.agg|none=>false)=true:=by kernel_rfl
    split at h
    . rename_i ti q;simp only [Bool.and_eq_true,beq_iff_eq] at h;exact ⟨ti,q,h.1,h.2⟩
    . simp at h
   obtain ⟨ti,q,hz,ha⟩:=q;have J:=xq3 (P:=Tryz.prog) (Inv:=xJt) Tryz.srl115 3 (by decide) (fun w=>by rw [<-ha];exact xkr q w) (fun w=>by rw [<-hz];exact xcF q w)
    intsE (fun _=>rfl) cmpE swoE 116 rfl (xdO Tryz.func115 rfl (by kernel_rfl)) (xnY (xdO Tryz.func116 rfl (by kernel_rfl)))
    (fun x y W=>Tryz.walkE _ _ _ _ _ _ (cmpE x y) (by
     have:=x.1.isLt;have:=y.1.isLt;unfold cmpE;exact xdC (by omega) (by omega)) W)
    ver 132 rfl (xs.map decE) (by simpa using h3)
   rw [List.length_map,xBx h4] at J;exact J
 . simp at h
end Go.Sim.M
namespace Go.Sim.M
abbrev TyS:Type:=Fin 1099511627777×Int
def intsS (x:TyS):List Int:=[(x.1.val:Int),x.2]
def cmpS (x y:TyS):Int:=(x.1.val:Int) - (y.1.val:Int)
end Go.Sim.M
namespace Go.Proofs
open Go.RowKit Go.Sim Go.Sim.M Go.Sort
set_option maxHeartbeats 1000000 in
theorem Tryz.walkS (a b a' b' r:Int) (hr:IntKind.i64.wrap (a - a')=r) (W:World):Calls Tryz.prog 84 #[.agg #[.int .i64 a,.int .i64 b],.agg #[.int .i64 a',.int .i64 b']] W fun e w'=>e=.returned (.int .i64 r)/\∃ q os',w'=Sort.grow (W.drewN q) os':=by
 go_enter Tryz.func84,Tryz.ntmps84
 go_wp2
 go_ret
 subst hr;exact ⟨rfl,0,_,by rw [alloc_eq_grow,alloc_eq_grow,grow_grow];rfl⟩
end Go.Proofs
namespace Go.Sim.M
open Go.RowKit Go.Proofs Go.Sort
def isS:AV->Bool
 | .agg [.int .i64 a,.int .i64 _]=>decide (0<=a)&&decide (a<=1099511627776)
 | _=>false
def decS:AV->TyS
 | .agg [.int _ a,.int _ b]=>(Fin.ofNat 1099511627777 a.toNat,b)
 | _=>default
noncomputable def srtS (xs:List AV):List AV:=(pdqL cmpS (xs.map decS)).map (encI intsS)
theorem xDn {x:AV} (h:isS x=true):encI intsS (decS x)=x:=by
 unfold isS at h;split at h
 . rename_i a b;simp only [Bool.and_eq_true,decide_eq_true_eq] at h;have:a.toNat % 1099511627777=a.toNat:=Nat.mod_eq_of_lt (by omega)
   simp only [decS,encI,intsS,List.map_cons,List.map_nil,Fin.ofNat,this,Int.toNat_of_nonneg h.1]
 . simp at h
theorem xB0 {xs:List AV} (h:xs.all isS=true):(xs.map decS).map (encI intsS)=xs:=by
 rw [List.map_map]
 conv=>rhs;rw [<-List.map_id xs]
 refine List.map_congr_left fun x hx=>?_
 exact xDn (List.all_eq_true.1 h x hx)
theorem ltS (x y:TyS):ltOf cmpS x y=decide (x.1.val<y.1.val):=by
 unfold ltOf cmpS;by_cases h:x.1.val<y.1.val
 . rw [decide_eq_true h,decide_eq_true (by omega)]
 . rw [decide_eq_false h,decide_eq_false (by omega)]
theorem swoS:SWO (ltOf cmpS) where
 irrefl x:=by rw [ltS];simp
 trans x y z h1 h2:=by rw [ltS] at *;simp at *;omega
 ntrans x y z h1 h2:=by rw [ltS] at *;simp at *;omega
noncomputable def xuQ:List AV->List Box->Option (Bool×AV×List Box)
 | [.osl (.b 0) ver 0 n,.func g []],[⟨ver',2,ty,xs,false,true⟩]=>match Nat.beq g 84&&Nat.beq ty 121 with
  | true=>some (Nat.beq ver ver'&&(Nat.beq n xs.length&&(decide (n<4611686018427387904)&&xs.all isS)),.tuple [],[⟨ver',2,121,srtS xs,false,true⟩])
  | false=>none
 | _,_=>none
theorem xFh:OmOk Tryz.prog xJt 83 xuQ:=fun Q H r H' h=>by
 unfold xuQ at h;split at h
 . rename_i ver n g O ty xs;split at h
   case h_2=>simp at h
   rename_i hg;simp only [Bool.and_eq_true] at hg;obtain rfl:=Nat.eq_of_beq_eq_true hg.1;obtain rfl:=Nat.eq_of_beq_eq_true hg.2;simp only [Option.some.injEq,Prod.mk.injEq,Bool.and_eq_true,decide_eq_true_eq] at h;obtain ⟨⟨h1,h2,h3,h4⟩,rfl,rfl⟩:=h;obtain rfl:=Nat.eq_of_beq_eq_true h1;obtain rfl:=Nat.eq_of_beq_eq_true h2;have q:∃ ti,xIM Tryz.prog 121=some ti/\ti.sz=2/\ti.agg=true:=by
    have h:(match xIM Tryz.prog 121 with|some ti=>(ti.sz==2)&&ti.agg|none=>false)=true:=by kernel_rfl
    split at h
    . rename_i ti q;simp only [Bool.and_eq_true,beq_iff_eq] at h;exact ⟨ti,q,h.1,h.2⟩
    . simp at h
   obtain ⟨ti,q,hz,ha⟩:=q;have J:=xq3 (P:=Tryz.prog) (Inv:=xJt) Tryz.srl83 2 (by decide) (fun w=>by rw [<-ha];exact xkr q w) (fun w=>by rw [<-hz];exact xcF q w)
    intsS (fun _=>rfl) cmpS swoS 84 rfl (xdO Tryz.func83 rfl (by kernel_rfl)) (xnY (xdO Tryz.func84 rfl (by kernel_rfl)))
    (fun x y W=>Tryz.walkS _ _ _ _ (cmpS x y) (by
     have:=x.1.isLt;have:=y.1.isLt;unfold cmpS;exact xdC (by omega) (by omega)) W)
    ver 121 rfl (xs.map decS) (by simpa using h3)
   rw [List.length_map,xB0 h4] at J;exact J
 . simp at h
end Go.Sim.M
namespace Go.Sim.M
open Go.RowKit Go.Proofs
noncomputable def E1:Env:=(xEg.E.withM 83 xuQ).withM 115 xuP
theorem xEd:xIN Tryz.prog xJt E1:=(xEg.ok.withM xFh).withM xFg
noncomputable def xGO:EO:=EO.mk E1 xEd
end Go.Sim.M
namespace Go.Sim.M
open Go.IntKind (i64 u64 u8)
open Go.RowKit Go.Proofs
def xgP:Env:=E1.fn 29 1 (lsOf []) (xI8 [])
theorem xt9:xIN P0 (xJt.at 1) xgP:=xEd.fn
theorem xsf:LoOk P0 (xJt.at xgP.pin) xgP (Tryz.f85.body.getD .skip):=xit (by kernel_rfl)
def xnl {T:Type} (k:Nat) (a n:Int) (b:LA) (δ:T) (κ:Bool×(Nat×LA)×(Nat×LA)->T):T:=br (rmB k b 1 16) (κ (false,(0,[]),(k+1,b++[AV.agg [AV.int .i64 a,AV.int .i64 n]]))) δ
def xpZ {T:Type} (k:Nat) (b n:Int) (a:LA) (δ:T) (κ:Bool×(Nat×LA)×(Nat×LA)->T):T:=br (decide ((↑k:Int)>0)) (br (decide (0<=i64.wrap ((↑k:Int) - 1))&&decide (i64.wrap ((↑k:Int) - 1)<(↑k:Int))) (br (decide (0+(i64.wrap ((↑k:Int) - 1)).toNat<a.length)&&xIL (Sh.int .i64) ((a.getD (0+(i64.wrap ((↑k:Int) - 1)).toNat) .top).cells.getD 1 .top)) (br (((a.getD (0+(i64.wrap ((↑k:Int) - 1)).toNat) .top).cells.getD 1 .top).toInt==n) (κ (true,(k,a),(0,[]))) (xnl k b n a δ κ)) δ) δ) (xnl k b n a δ κ)
def xco (k:Nat) (a n:Int) (b:LA):=xpZ k a n b none some
theorem xzE (k:Nat) (a n:Int) (xs:LA):Enc (fun (p:Bool×(Nat×LA)×(Nat×LA))=>((br p.1 ((AV.osl 0 0 0 p.2.1.1,([⟨0,2,121,p.2.1.2,false,true⟩]:List Box))) ((AV.osl 0 1 0 p.2.2.1,([⟨1,2,121,p.2.2.2,false,true⟩]:List Box)))):(AV×List Box))) (xco k a n xs) (XFM P0 xgP Tryz.f85 (Tryz.f85.body.getD .skip) [AV.osl (0:Id) 0 0 k,AV.int .i64 a,AV.int .i64 n] [{ ver:=0,sz:=2,ty:=(121:TypeId),xs:=xs,frz:=false,pm:=true }]):=by
 have h:XFM P0 xgP Tryz.f85 (Tryz.f85.body.getD .skip) [AV.osl (0:Id) 0 0 k,AV.int .i64 a,AV.int .i64 n] [{ ver:=0,sz:=2,ty:=(121:TypeId),xs:=xs,frz:=false,pm:=true }]=xpZ k a n xs none (fun (p:Bool×(Nat×LA)×(Nat×LA))=>some ((br p.1 ((AV.osl 0 0 0 p.2.1.1,([⟨0,2,121,p.2.1.2,false,true⟩]:List Box))) ((AV.osl 0 1 0 p.2.2.1,([⟨1,2,121,p.2.2.2,false,true⟩]:List Box)))):(AV×List Box))):=by kernel_rfl
 rw [h];unfold xco xpZ xnl;repeat' (first|refine Enc.br ?_ ?_|exact Enc.none|exact Enc.some rfl)
def xzD:LA->List Box->Option (Bool×AV×List Box):=omOf (xJv (sEq (xJH 0 0 0)) (xJv (sEq (pInt .i64)) (xJv (sEq (pInt .i64)) xJy))) (xJu (xJK 0 2 (121:TypeId) false true xJz) xJw) fun (k,(a,(n,_))) (b,_)=>((xco k a n b).isSome,(AV.osl 0 1 0 (br ((xco k a n b).getD (false,(0,[]),(0,[]))).1 ((xco k a n b).getD (false,(0,[]),(0,[]))).2.1.1 ((xco k a n b).getD (false,(0,[]),(0,[]))).2.2.1),([⟨1,2,121,(br ((xco k a n b).getD (false,(0,[]),(0,[]))).1 ((xco k a n b).getD (false,(0,[]),(0,[]))).2.1.2 ((xco k a n b).getD (false,(0,[]),(0,[]))).2.2.2),false,true⟩]:List Box)))
theorem xzC:OmOk P0 xJt 85 (xzD):=xr7 fun e f j i g=>by
 obtain ⟨k,⟨b,⟨n,_⟩⟩⟩:=e;obtain ⟨h,_⟩:=f;obtain ⟨c,a⟩:=Prod.mk.inj g;have hx:=xzE _ _ _ _ _ (xbt (d:=(false,(0,[]),(0,[]))) c);revert hx a;generalize ((xco k b n h).getD (false,(0,[]),(0,[])))=p;intro a hx;obtain ⟨rfl,rfl⟩:=Prod.mk.inj a;obtain ⟨t,⟨l,m⟩,o,q⟩:=p;have hg:GoodM P0 xJt 85 _ _ _ _:=xo8 (p:=xgP.pin) (xo7 xIW (xIX P0 _) rfl xt9 rfl Tryz.func85 rfl (by kernel_rfl) xsf hx)
 cases t
 . exact hg
 . exact GoodM.bump1 rfl (by decide) hg
def xrf:EO:=xGO.wM xzC
def xjW {T:Type} (d:LA) (e:Int) (b:Nat) (c:Int) (a:LA) (δ:T) (κl:(Nat×Int×LA)->T) (κr:(Nat×LA)->T):T:=br (decide (c<e)) (br (ixI d c) (br (ixT d c 3 [Sh.int .i64,Sh.int .i64,Sh.int .i64] 0) (br (xc2 (gC d c 0).toInt (gC d c 1).toInt) (br (rmB b a 2 16) (κl (b+2,i64.wrap (c+1),a++[AV.agg [AV.int .i64 (gC d c 0).toInt,AV.int .i64 (gC d c 2).toInt],AV.agg [AV.int .i64 (gC d c 1).toInt,AV.int .i64 (i64.wrap (0 - (gC d c 2).toInt))]])) δ) (κl (b,i64.wrap (c+1),a))) δ) δ) (κr (b,a))
def xdz (c:LA) (d:Int):StT (Nat×Int×LA) (Nat×LA):=fun (b,e,a)=>xjW c d b e a none inL inR
def xgD:=xrf.l 106 0 [] [] Tryz.f54 0 lk0 [3,10,11,12] [3] [(3,2,121)] (q4 (xJH 0 0 0) (qL 3) qI qI) (q1 (qB 0 2 121 xJz)) (fun (b,c,d,e,_) (a,_)=>(xdz c d,(b,e,a),fun p=>(.leaf (.exit 0) [AV.osl 0 0 0 p.1] [bF 0 2 121 p.2]))) (0,[]) fun (_,c,d,_,_) _ (b,e,a)=>(((b,c,d,e,()),(a,())),xjW c d b e a none)
def xqb (i:Int) (a:LA):=decide (0+i.toNat<a.length)
def xq4 {T:Type} (b e:Nat) (d i:Int) (a c:LA) (δ:T) (κl:(Int×Int×LA×LA)->T) (κr:(Int×Int×LA×LA)->T):T:=br (decide (i<(↑b:Int))) (br (decide (0<=i)&&decide (i<(↑b:Int))) (br (xqb i a&&xIL (Sh.int .i64) ((a.getD (0+i.toNat) .top).cells.getD 0 .top)) (br (((a.getD (0+i.toNat) .top).cells.getD 0 .top).toInt==0) (br (decide (0<=i)&&decide (i<(↑b:Int))) (br (xqb i a&&xIL (Sh.int .i64) ((a.getD (0+i.toNat) .top).cells.getD 1 .top)) (κl (i64.wrap (d+((a.getD (0+i.toNat) .top).cells.getD 1 .top).toInt),i64.wrap (i+1),a,c)) δ) δ) (κr (d,i,a,c))) δ) δ) (κr (d,i,a,c))
def xhk (b d:Nat):StT (Int×Int×LA×LA) (Int×Int×LA×LA):=fun (e,i,a,c)=>xq4 b d e i a c none inL inR
def xi3:=xrf.l 106 0 [] [(3,xgD.lp)] Tryz.f54 1 lk0 [3,6,7,8] [3,6,7,8] [(3,2,121),(6,2,121)] (q4 (xJH 0 0 0) (xJH 1 0 0) qI qI) (q2 (qB 0 2 121 xJz) (qB 0 2 121 xJz)) (fun (a,c,e,i,_) (b,d,_)=>(xhk a c,(e,i,b,d),fun p=>(.leaf (.exit 2) [AV.osl 0 0 0 a,AV.osl 1 0 0 c,AV.int .i64 p.1,AV.int .i64 p.2.1] [bF 0 2 121 p.2.2.1,bF 0 2 121 p.2.2.2]))) (0,0,[],[]) fun (a,c,_,_,_) _ (e,i,b,d)=>(((a,c,e,i,()),(b,d,())),xq4 a c e i b d none)
def xgO (i:Int) (a:LA):=decide (0+i.toNat<a.length)
def xhE {T:Type} (b f:Nat) (e d i:Int) (a c:LA) (δ:T) (κl:(Int×Int×LA×LA)->T) (κr:(Int×Int×LA×LA)->T):T:=br (decide (i<(↑b:Int))) (br (decide (0<=i)&&decide (i<(↑b:Int))) (br (xgO i a&&xIL (Sh.int .i64) ((a.getD (0+i.toNat) .top).cells.getD 0 .top)) (br (((a.getD (0+i.toNat) .top).cells.getD 0 .top).toInt==e) (br (decide (0<=i)&&decide (i<(↑b:Int))) (br (xgO i a&&xIL (Sh.int .i64) ((a.getD (0+i.toNat) .top).cells.getD 1 .top)) (κl (i64.wrap (d+((a.getD (0+i.toNat) .top).cells.getD 1 .top).toInt),i64.wrap (i+1),a,c)) δ) δ) (κr (d,i,a,c))) δ) δ) (κr (d,i,a,c))
def xcG (b d:Nat) (e:Int):StT (Int×Int×LA×LA) (Int×Int×LA×LA):=fun (f,i,a,c)=>xhE b d e f i a c none inL inR
def xi4:=xrf.l 106 0 [] [(3,xgD.lp),(11,xi3.lp)] Tryz.f54 3 lk0 [3,6,7,8,9] [3,6,7,8,9] [(3,2,121),(6,2,121)] (q5 (xJH 0 0 0) (xJH 1 0 0) qI qI qI) (q2 (qB 0 2 121 xJz) (qB 0 2 121 xJz)) (fun (a,c,f,i,e,_) (b,d,_)=>(xcG a c e,(f,i,b,d),fun p=>(.leaf (.exit 6) [AV.osl 0 0 0 a,AV.osl 1 0 0 c,AV.int .i64 p.1,AV.int .i64 p.2.1,AV.int .i64 e] [bF 0 2 121 p.2.2.1,bF 0 2 121 p.2.2.2]))) (0,0,[],[]) fun (a,c,_,_,e,_) _ (f,i,b,d)=>(((a,c,f,i,e,()),(b,d,())),xhE a c e f i b d none)
def xf1 (i:Int) (a:LA):=decide (0+i.toNat<a.length)&&xIL (Sh.int .i64) ((a.getD (0+i.toNat) .top).cells.getD 0 .top)
def xel (i:Int) (a:LA):=((a.getD (0+i.toNat) .top).cells.getD 0 .top).toInt
def xf2 (b d:Nat) (e i:Int) (a c:LA):=Iter (xcG b d (xel i a)) (e,i,a,c)
def xgN (b d:Nat) (e i:Int) (a c:LA):=(xf2 b d e i a c).getD (0,0,[],[])
def xgL (b d:Nat) (e i:Int) (a c:LA):=(xgN b d e i a c).snd
def xgM (b d:Nat) (e i:Int) (a c:LA):=(xgN b d e i a c).fst
def xgK (b d:Nat) (e i:Int) (a c:LA):=(xgL b d e i a c).snd
def xgJ (b c:Nat) (e i:Int) (a d:LA):=xco c (xel i a) (xgM b c e i a d) (xgK b c e i a d).snd
def xgI (b d:Nat) (e i:Int) (a c:LA):=(xgJ b d e i a c).getD (false,(0,[]),0,[])
def xgG (b d:Nat) (e i:Int) (a c:LA):=(xgI b d e i a c).fst
def xgH (b d:Nat) (e i:Int) (a c:LA):=(xgI b d e i a c).snd
def xgE (b d:Nat) (e i:Int) (a c:LA):=(xgH b d e i a c).fst
def xgF (b d:Nat) (e i:Int) (a c:LA):=(xgH b d e i a c).snd
def xhD {T:Type} (b d:Nat) (e i:Int) (a c:LA) (δ:T) (κl:(Nat×Int×Int×LA×LA)->T) (κr:(Nat×LA)->T):T:=br (decide (i<(↑b:Int))) (br (decide (0<=i)&&decide (i<(↑b:Int))) (br (xf1 i a) (br (decide (xel i a<1099511627776)) (br (decide (0<=i)&&decide (i<(↑b:Int))) (br (xf1 i a) (br ((xf2 b d e i a c).isSome) (br ((xgJ b d e i a c).isSome) (κl (br (xgG b d e i a c) (xgE b d e i a c).fst (xgF b d e i a c).fst,xgM b d e i a c,(xgL b d e i a c).fst,(xgK b d e i a c).fst,br (xgG b d e i a c) (xgE b d e i a c).snd (xgF b d e i a c).snd)) δ) δ) δ) δ) (κr (d,c))) δ) δ) (κr (d,c))
def xdA (b:Nat):StT (Nat×Int×Int×LA×LA) (Nat×LA):=fun (d,e,i,a,c)=>xhD b d e i a c none inL inR
def xqc:=xrf.l 106 0 [] [(3,xgD.lp),(11,xi3.lp),(17,xi4.lp)] Tryz.f54 2 (lk1 xi4.ok) [3,6,7,8] [6] [(3,2,121),(6,2,121)] (q4 (xJH 0 0 0) (xJH 1 0 0) qI qI) (q2 (qB 0 2 121 xJz) (qB 0 2 121 xJz)) (fun (b,d,e,i,_) (a,c,_)=>(xdA b,(d,e,i,a,c),fun p=>(.leaf (.exit 4) [AV.osl 0 0 0 p.1] [bF 0 2 121 p.2]))) (0,[]) fun (b,_,_,_,_) _ (d,e,i,a,c)=>(((b,d,e,i,()),(a,c,())),xhD b d e i a c none)
def xoN (l:LA):=(Iter (xdz l (↑l.length:Int)) (0,0,[])).getD (0,[])
def xiF (l:LA):=(xoN l).fst
def xln (l:LA):=(xoN l).snd
def xoM (l:LA):=Iter (xhk (xiF l) 0) (0,0,srtS (xln l),[])
def xoL (l:LA):=(xoM l).getD (0,0,[],[])
def xoJ (l:LA):=(xoL l).fst
def xoK (l:LA):=(xoL l).snd
def xoI (l:LA):=(xoK l).snd
def xpY (l:LA):=xco 0 0 (xoJ l) (xoI l).snd
def xpX (l:LA):=(xpY l).getD (false,(0,[]),0,[])
def xpV (l:LA):=(xpX l).snd
def xpW (l:LA):=(xpX l).fst
def xpT (l:LA):=(xpV l).snd
def xpU (l:LA):=(xpV l).fst
def xpS (l:LA):=Iter (xdA (xiF l)) (br (xpW l) (xpU l).fst (xpT l).fst,xoJ l,(xoK l).fst,(xoI l).fst,br (xpW l) (xpU l).snd (xpT l).snd)
def xpR (l:LA):=(xpS l).getD (0,[])
def xpP (l:LA):=(xpR l).fst
def xpQ (l:LA):=(xpR l).snd
def xqL {T:Type} (l:LA) (δ:T) (κ:LA->T):T:=br ((Iter (xdz l (↑l.length:Int)) (0,0,[])).isSome) (br ((xiF l).beq (xln l).length&&(decide (xiF l<4611686018427387904)&&(xln l).all isS)) (br ((xoM l).isSome) (br ((xpY l).isSome) (br ((xpS l).isSome) (br (decide (0+xpP l<=(xpQ l).length)&&true) (κ (List.take (xpP l) (List.drop 0 (xpQ l)))) δ) δ) δ) δ) δ) δ
def xhj (l:LA):=xqL l none some
def xBs:EO:=xrf.f Tryz.func54 106 0 [] [(3,xgD.lp),(11,xi3.lp),(17,xi4.lp),(15,xqc.lp)] (lks (lkC xgD.ok (lkC xi3.ok (lkC xqc.ok (lkC xi4.ok lkN))))) (u1 (uL 3)) (fun (l,_) _=>xqL l) (fun _ p=>AV.list 2 p) []
def xaL (l:LA) (n:Int) (a:LA) (e:Int) (d:Nat) (b:Int) (c:LA):=decide ((gC a b 1).toInt<n)
def xav (a:Nat):=decide (0<=i64.wrap ((↑a:Int) - 1))&&decide (i64.wrap ((↑a:Int) - 1)<(↑a:Int))
def xad (a:Nat):Nat:=0+(i64.wrap ((↑a:Int) - 1)).toNat
def xaM (l:LA) (a:Int):=decide (i64.wrap (a+1)<(↑l.length:Int))
def xaw (b:Nat) (a:LA):=decide (xad b<a.length)
def xaA {T:Type} (l d:LA) (b:Nat) (c:Int) (a:LA) (δ:T) (κl:(Nat×Int×LA)->T):T:=br (rmB b a 1 16) (κl (b+1,i64.wrap (c+1),a++[AV.agg [AV.int .i64 (gC d c 0).toInt,AV.int .i64 ((l.getD (i64.wrap (c+1)).toNat .top).cells.getD 0 .top).toInt]])) δ
def xaB {T:Type} (d:LA) (b:Nat) (c:Int) (a:LA) (δ:T) (κl:(Nat×Int×LA)->T):T:=br (rmB b a 1 16) (κl (b+1,i64.wrap (c+1),a++[AV.agg [AV.int .i64 (gC d c 0).toInt,AV.int .i64 1099511627776]])) δ
def xaH {T:Type} (l:LA) (n:Int) (d:LA) (e:Int) (a:Nat) (c:Int) (b:LA) (δ:T) (κl:(Nat×Int×LA)->T) (κr:(Nat×LA)->T):T:=br (decide (c<e)) (br (ixI d c) (br (ixT d c 2 [Sh.int .i64,Sh.int .i64] 0) (br (xaM l c) (br (decide (0<=i64.wrap (c+1))&&xaM l c) (br (decide ((i64.wrap (c+1)).toNat<l.length)&&xIL (Sh.int .i64) ((l.getD (i64.wrap (c+1)).toNat .top).cells.getD 0 .top)) (br (xaL l n d e a c b) (κl (a,i64.wrap (c+1),b)) (br (decide ((↑a:Int)>0)) (br (xav a) (br (xaw a b&&xIL (Sh.int .i64) ((b.getD (xad a) .top).cells.getD 1 .top)) (br (((b.getD (xad a) .top).cells.getD 1 .top).toInt==(gC d c 0).toInt) (br (xav a) (br (xaw a b) (κl (a,i64.wrap (c+1),b.set (xad a) (AV.agg (List.take 1 (b.getD (xad a) .top).cells++[AV.int .i64 ((l.getD (i64.wrap (c+1)).toNat .top).cells.getD 0 .top).toInt]++List.drop 2 (b.getD (xad a) .top).cells)))) δ) δ) (xaA l d a c b δ κl)) δ) δ) (xaA l d a c b δ κl))) δ) δ) (br (xaL l n d e a c b) (κl (a,i64.wrap (c+1),b)) (br (decide ((↑a:Int)>0)) (br (xav a) (br (xaw a b&&xIL (Sh.int .i64) ((b.getD (xad a) .top).cells.getD 1 .top)) (br (((b.getD (xad a) .top).cells.getD 1 .top).toInt==(gC d c 0).toInt) (br (xav a) (br (xaw a b) (κl (a,i64.wrap (c+1),b.set (xad a) (AV.agg (List.take 1 (b.getD (xad a) .top).cells++[AV.int .i64 1099511627776]++List.drop 2 (b.getD (xad a) .top).cells)))) δ) δ) (xaB d a c b δ κl)) δ) δ) (xaB d a c b δ κl)))) δ) δ) (κr (a,b))
def xal (l:LA) (n:Int) (c:LA) (d:Int):StT (Nat×Int×LA) (Nat×LA):=fun (b,e,a)=>xaH l n c d b e a none inL inR
def xlC:=xBs.l 62 0 [] [] Tryz.f53 0 lk0 [0,1,5,10,11,12] [5] [(5,2,50)] (q6 (qL 2) qI (xJH 0 0 0) (qL 2) qI qI) (q1 (qB 0 2 50 xJz)) (fun (l,n,b,c,d,e,_) (a,_)=>(xal l n c d,(b,e,a),fun p=>(.leaf (.exit 0) [AV.osl 0 0 0 p.1] [bF 0 2 50 p.2]))) (0,[]) fun (l,n,_,c,d,_,_) _ (b,e,a)=>(((l,n,b,c,d,e,()),(a,())),xaH l n c d b e a none)
def xkj (l:LA) (n:Int):=(Iter (xal l n l (↑l.length:Int)) (0,0,[])).getD (0,[])
def xkh (l:LA) (n:Int):=(xkj l n).fst
def xki (l:LA) (n:Int):=(xkj l n).snd
def xlm {T:Type} (l:LA) (n:Int) (δ:T) (κ:LA->T):T:=br ((Iter (xal l n l (↑l.length:Int)) (0,0,[])).isSome) (br (decide (0+xkh l n<=(xki l n).length)&&true) (κ (List.take (xkh l n) (List.drop 0 (xki l n)))) δ) δ
def xep (l:LA) (n:Int):=xlm l n none some
def xwu:EO:=xBs.f Tryz.func53 62 0 [] [(3,xlC.lp)] (lk1 xlC.ok) (u2 (uL 2) uI) (fun (l,n,_) _=>xlm l n) (fun _ p=>AV.list 2 p) []
def xh8 {T:Type} (b e:LA) (f:Int) (c:Nat) (a:Int) (d:LA) (δ:T) (κl:(Nat×Int×LA)->T) (κr:(Nat×LA)->T):T:=br (decide (a<f)) (br (decide (0<=a)&&decide (a<e.length)) (br (decide (a.toNat<e.length)&&((e.getD a.toNat .top).cells.length==2&&xIS [Sh.int .i64,Sh.int .i64] (e.getD a.toNat .top).cells 0)) (br (xc2 ((e.getD a.toNat .top).cells.getD 0 .top).toInt ((e.getD a.toNat .top).cells.getD 1 .top).toInt) (br (c==d.length&&(decide ((c+2)*24<=140737488355328)&&decide (c+2<=4611686018427387904))) (κl (c+2,i64.wrap (a+1),d++[AV.agg [AV.int .i64 ((e.getD a.toNat .top).cells.getD 0 .top).toInt,AV.int .i64 1,AV.int .i64 0],AV.agg [AV.int .i64 ((e.getD a.toNat .top).cells.getD 1 .top).toInt,AV.int .i64 (-1),AV.int .i64 0]])) δ) (κl (c,i64.wrap (a+1),d))) δ) δ) (κr (c,d))
def xbC (b d:LA) (e:Int):StT (Nat×Int×LA) (Nat×LA):=fun (c,f,a)=>xh8 b d e c f a none inL inR
def xkg:=xwu.l 49 0 [] [] Tryz.f87 0 lk0 [1,5,10,11,12] [1,5] [(5,3,132)] (q5 (qL 2) (xJH 0 0 0) (qL 2) qI qI) (q1 (qB 0 3 132 xJz)) (fun (b,c,d,e,f,_) (a,_)=>(xbC b d e,(c,f,a),fun p=>(.leaf (.exit 0) [AV.list 2 b,AV.osl 0 0 0 p.1] [bF 0 3 132 p.2]))) (0,[]) fun (b,_,d,e,_,_) _ (c,f,a)=>(((b,c,d,e,f,()),(a,())),xh8 b d e c f a none)
def xh9 {T:Type} (d:LA) (e:Int) (b:Nat) (a:Int) (c:LA) (δ:T) (κl:(Nat×Int×LA)->T) (κr:(Nat×LA)->T):T:=br (decide (a<e)) (br (decide (0<=a)&&decide (a<d.length)) (br (decide (a.toNat<d.length)&&((d.getD a.toNat .top).cells.length==2&&xIS [Sh.int .i64,Sh.int .i64] (d.getD a.toNat .top).cells 0)) (br (xc2 ((d.getD a.toNat .top).cells.getD 0 .top).toInt ((d.getD a.toNat .top).cells.getD 1 .top).toInt) (br (b==c.length&&(decide ((b+2)*24<=140737488355328)&&decide (b+2<=4611686018427387904))) (κl (b+2,i64.wrap (a+1),c++[AV.agg [AV.int .i64 ((d.getD a.toNat .top).cells.getD 0 .top).toInt,AV.int .i64 0,AV.int .i64 1],AV.agg [AV.int .i64 ((d.getD a.toNat .top).cells.getD 1 .top).toInt,AV.int .i64 0,AV.int .i64 (-1)]])) δ) (κl (b,i64.wrap (a+1),c))) δ) δ) (κr (b,c))
def xcP (c:LA) (d:Int):StT (Nat×Int×LA) (Nat×LA):=fun (b,e,a)=>xh9 c d b e a none inL inR
def xoE:=xwu.l 49 0 [] [(3,xkg.lp)] Tryz.f87 1 lk0 [5,28,29,30] [5] [(5,3,132)] (q4 (xJH 0 0 0) (qL 2) qI qI) (q1 (qB 0 3 132 xJz)) (fun (b,c,d,e,_) (a,_)=>(xcP c d,(b,e,a),fun p=>(.leaf (.exit 2) [AV.osl 0 0 0 p.1] [bF 0 3 132 p.2]))) (0,[]) fun (_,c,d,_,_) _ (b,e,a)=>(((b,c,d,e,()),(a,())),xh9 c d b e a none)
def xjV (a b:LA):=(Iter (xbC b a (↑a.length:Int)) (0,0,[])).getD (0,[])
def xjU (a b:LA):=Iter (xcP b (↑b.length:Int)) ((xjV a b).fst,0,(xjV a b).snd)
def xjT (a b:LA):=(xjU a b).getD (0,[])
def xfy (a b:LA):=(xjT a b).fst
def xfz (a b:LA):=(xjT a b).snd
def xoF {T:Type} (a b:LA) (δ:T) (κ:LA->T):T:=br ((Iter (xbC b a (↑a.length:Int)) (0,0,[])).isSome) (br ((xjU a b).isSome) (br ((xfy a b).beq (xfz a b).length&&(decide (xfy a b<4611686018427387904)&&(xfz a b).all isE)) (br (decide (0+xfy a b<=(srtE (xfz a b)).length)&&true) (κ (List.take (xfy a b) (List.drop 0 (srtE (xfz a b))))) δ) δ) δ) δ
def xfV (a b:LA):=xoF a b none some
def xFz:EO:=xwu.f Tryz.func87 49 0 [] [(3,xkg.lp),(9,xoE.lp)] (lks (lkC xkg.ok (lkC xoE.ok lkN))) (u2 (uL 2) (uL 2)) (fun (a,b,_) _=>xoF a b) (fun _ p=>AV.list 3 p) []
def xku (a b:Bool):Bool:=((a))
def xzA {T:Type} (a b:Bool) (δ:T) (κ:Bool->T):T:=κ (a)
def xFA:EO:=xFz.fT Tryz.func74 6 0 [] [] lk0 (fun (a,b,_)=>xzA a b none) (u2 (sEq pBool) (sEq pBool)) (fun (a,b,_)=>xku a b) (fun _ p=>(AV.bool p))
def xdy (a b:Bool):Bool:=(br (a) ((b)) ((false)))
def xrP {T:Type} (a b:Bool) (δ:T) (κ:Bool->T):T:=br (a) (κ (b)) (κ (false))
def xwv:EO:=xFA.fT Tryz.func57 9 0 [] [] lk0 (fun (a,b,_)=>xrP a b none) (u2 (sEq pBool) (sEq pBool)) (fun (a,b,_)=>xdy a b) (fun _ p=>(AV.bool p))
def xiE (l:LA) (i:Int):=decide (0<=i)&&decide (i<l.length)
def xnA {T:Type} (l:LA) (e:Nat) (d b c i:Int) (a:LA) (δ:T) (κl:(Int×Int×Int×LA)->T) (κr:(Int×Int×Int×LA)->T):T:=br (decide (i<l.length)) (br (xiE l i) (br (decide (i.toNat<l.length)&&xIL (Sh.int .i64) ((l.getD i.toNat .top).cells.getD 0 .top)) (br (((l.getD i.toNat .top).cells.getD 0 .top).toInt==d) (br (xiE l i) (br (decide (i.toNat<l.length)&&xIL (Sh.int .i64) ((l.getD i.toNat .top).cells.getD 1 .top)) (br (xiE l i) (br (decide (i.toNat<l.length)&&xIL (Sh.int .i64) ((l.getD i.toNat .top).cells.getD 2 .top)) (κl (i64.wrap (b+((l.getD i.toNat .top).cells.getD 1 .top).toInt),i64.wrap (c+((l.getD i.toNat .top).cells.getD 2 .top).toInt),i64.wrap (i+1),a)) δ) δ) δ) δ) (κr (b,c,i,a))) δ) δ) (κr (b,c,i,a))
def xhi (l:LA) (b:Nat) (c:Int):StT (Int×Int×Int×LA) (Int×Int×Int×LA):=fun (d,e,i,a)=>xnA l b c d e i a none inL inR
def xf0:=xwv.l 92 0 [] [] Tryz.f56 1 lk0 [2,7,8,9,10,11,12] [2,7,8,9,10,11,12] [(8,2,50)] (q7 (xI9 74 xJw) (qL 3) (xJH 0 0 0) qI qI qI qI) (q1 (qB 0 2 50 xJz)) (fun (_,l,a,d,e,i,c,_) (b,_)=>(xhi l a c,(d,e,i,b),fun p=>(.leaf (.exit 2) [AV.func 74 [],AV.list 3 l,AV.osl 0 0 0 a,AV.int .i64 p.1,AV.int .i64 p.2.1,AV.int .i64 p.2.2.1,AV.int .i64 c] [bF 0 2 50 p.2.2.2]))) (0,0,0,[]) fun (_,l,a,_,_,_,c,_) _ (d,e,i,b)=>((((),l,a,d,e,i,c,()),(b,())),xnA l a c d e i b none)
def xfx (a:Nat):=decide (0<=i64.wrap ((↑a:Int) - 1))&&decide (i64.wrap ((↑a:Int) - 1)<(↑a:Int))
def xlB (l:LA) (b:Nat) (d e i c:Int) (a:LA):=(Iter (xhi l b c) (d,e,i,a)).getD (0,0,0,[])
def xaE (a:Nat):Nat:=0+(i64.wrap ((↑a:Int) - 1)).toNat
def xmY (l:LA) (b:Nat) (d e i c:Int) (a:LA):=(xlB l b d e i c a).snd
def xbc (l:LA) (b:Nat) (d e i c:Int) (a:LA):=(xlB l b d e i c a).fst
def xbb (l:LA) (b:Nat) (d e i c:Int) (a:LA):=(xmY l b d e i c a).fst
def xmX (l:LA) (b:Nat) (d e i c:Int) (a:LA):=(xmY l b d e i c a).snd
def xac (l:LA) (b:Nat) (d e i c:Int) (a:LA):=(xmX l b d e i c a).snd
def xmV (l:LA) (b:Nat) (d e i c:Int) (a:LA):=xku (decide (xbc l b d e i c a>0)) (decide (xbb l b d e i c a>0))
def xag (l:LA) (b:Nat) (d e i c:Int) (a:LA):=(xmX l b d e i c a).fst
def xfZ (l:LA) (a:Nat) (d e i c:Int) (b:LA):=decide (xaE a<(xac l a d e i c b).length)
def xmW (l:LA) (b:Nat) (d e i c:Int) (a:LA):=decide (xag l b d e i c a<l.length)
def xnz {T:Type} (l:LA) (a:Nat) (d e i c:Int) (b:LA) (δ:T) (κl:(Nat×Int×Int×Int×Int×LA)->T) (κr:(Nat×LA)->T):T:=br (decide (c<1099511627776)) (br ((Iter (xhi l a c) (d,e,i,b)).isSome) (br (xmW l a d e i c b) (br (decide (0<=xag l a d e i c b)&&xmW l a d e i c b) (br (decide ((xag l a d e i c b).toNat<l.length)&&xIL (Sh.int .i64) ((l.getD (xag l a d e i c b).toNat .top).cells.getD 0 .top)) (br (xmV l a d e i c b) (br (decide ((↑a:Int)>0)) (br (xfx a) (br (xfZ l a d e i c b&&xIL (Sh.int .i64) (((xac l a d e i c b).getD (xaE a) .top).cells.getD 1 .top)) (br ((((xac l a d e i c b).getD (xaE a) .top).cells.getD 1 .top).toInt==c) (br (xfx a) (br (xfZ l a d e i c b) (κl (a,xbc l a d e i c b,xbb l a d e i c b,xag l a d e i c b,((l.getD (xag l a d e i c b).toNat .top).cells.getD 0 .top).toInt,(xac l a d e i c b).set (xaE a) (AV.agg (List.take 1 ((xac l a d e i c b).getD (xaE a) .top).cells++[AV.int .i64 ((l.getD (xag l a d e i c b).toNat .top).cells.getD 0 .top).toInt]++List.drop 2 ((xac l a d e i c b).getD (xaE a) .top).cells)))) δ) δ) (br (a==(xac l a d e i c b).length&&(decide ((a+1)*16<=140737488355328)&&decide (a+1<=4611686018427387904))) (κl (a+1,xbc l a d e i c b,xbb l a d e i c b,xag l a d e i c b,((l.getD (xag l a d e i c b).toNat .top).cells.getD 0 .top).toInt,xac l a d e i c b++[AV.agg [AV.int .i64 c,AV.int .i64 ((l.getD (xag l a d e i c b).toNat .top).cells.getD 0 .top).toInt]])) δ)) δ) δ) (br (a==(xac l a d e i c b).length&&(decide ((a+1)*16<=140737488355328)&&decide (a+1<=4611686018427387904))) (κl (a+1,xbc l a d e i c b,xbb l a d e i c b,xag l a d e i c b,((l.getD (xag l a d e i c b).toNat .top).cells.getD 0 .top).toInt,xac l a d e i c b++[AV.agg [AV.int .i64 c,AV.int .i64 ((l.getD (xag l a d e i c b).toNat .top).cells.getD 0 .top).toInt]])) δ)) (κl (a,xbc l a d e i c b,xbb l a d e i c b,xag l a d e i c b,((l.getD (xag l a d e i c b).toNat .top).cells.getD 0 .top).toInt,xac l a d e i c b))) δ) δ) (br (xmV l a d e i c b) (br (decide ((↑a:Int)>0)) (br (xfx a) (br (xfZ l a d e i c b&&xIL (Sh.int .i64) (((xac l a d e i c b).getD (xaE a) .top).cells.getD 1 .top)) (br ((((xac l a d e i c b).getD (xaE a) .top).cells.getD 1 .top).toInt==c) (br (xfx a) (br (xfZ l a d e i c b) (κl (a,xbc l a d e i c b,xbb l a d e i c b,xag l a d e i c b,1099511627776,(xac l a d e i c b).set (xaE a) (AV.agg (List.take 1 ((xac l a d e i c b).getD (xaE a) .top).cells++[AV.int .i64 1099511627776]++List.drop 2 ((xac l a d e i c b).getD (xaE a) .top).cells)))) δ) δ) (br (a==(xac l a d e i c b).length&&(decide ((a+1)*16<=140737488355328)&&decide (a+1<=4611686018427387904))) (κl (a+1,xbc l a d e i c b,xbb l a d e i c b,xag l a d e i c b,1099511627776,xac l a d e i c b++[AV.agg [AV.int .i64 c,AV.int .i64 1099511627776]])) δ)) δ) δ) (br (a==(xac l a d e i c b).length&&(decide ((a+1)*16<=140737488355328)&&decide (a+1<=4611686018427387904))) (κl (a+1,xbc l a d e i c b,xbb l a d e i c b,xag l a d e i c b,1099511627776,xac l a d e i c b++[AV.agg [AV.int .i64 c,AV.int .i64 1099511627776]])) δ)) (κl (a,xbc l a d e i c b,xbb l a d e i c b,xag l a d e i c b,1099511627776,xac l a d e i c b)))) δ) (κr (a,b))
def xll (l:LA):StT (Nat×Int×Int×Int×Int×LA) (Nat×LA):=fun (b,d,e,i,c,a)=>xnz l b d e i c a none inL inR
def xmU:=xwv.l 92 0 [] [(6,xf0.lp)] Tryz.f56 0 (lk1 xf0.ok) [2,7,8,9,10,11,12] [8] [(8,2,50)] (q7 (xI9 74 xJw) (qL 3) (xJH 0 0 0) qI qI qI qI) (q1 (qB 0 2 50 xJz)) (fun (_,l,b,d,e,i,c,_) (a,_)=>(xll l,(b,d,e,i,c,a),fun p=>(.leaf (.exit 0) [AV.osl 0 0 0 p.1] [bF 0 2 50 p.2]))) (0,[]) fun (_,l,_,_,_,_,_,_) _ (b,d,e,i,c,a)=>((((),l,b,d,e,i,c,()),(a,())),xnz l b d e i c a none)
def xpq (a b:LA):=Iter (xll ((xfV a b).getD [])) (0,0,0,0,0,[])
def xpp (a b:LA):=(xpq a b).getD (0,[])
def xpn (a b:LA):=(xpp a b).snd
def xpo (a b:LA):=(xpp a b).fst
def xqa {T:Type} (a b:LA) (δ:T) (κ:LA->T):T:=br ((xfV a b).isSome) (br ((xpq a b).isSome) (br (decide (0+xpo a b<=(xpn a b).length)&&true) (κ (List.take (xpo a b) (List.drop 0 (xpn a b)))) δ) δ) δ
def xoH (a b:LA):=xqa a b none some
def xFB:EO:=xwv.f Tryz.func56 92 0 [] [(6,xf0.lp),(5,xmU.lp)] (lks (lkC xmU.ok (lkC xf0.ok lkN))) (u3 (uL 2) (uL 2) (sEq (xI9 (74:FuncId) xJw))) (fun (a,b,_,_) _=>xqa a b) (fun _ p=>AV.list 2 p) []
def xrQ {T:Type} (l:LA) (δ:T) (κ:LA->T):T:=br ((xoH l []).isSome) (κ ((xoH l []).getD [])) δ
def xkt (l:LA):=xrQ l none some
def xww:EO:=xFB.f Tryz.func43 5 0 [] [] lk0 (u1 (uL 2)) (fun (l,_) _=>xrQ l) (fun _ p=>AV.list 2 p) []
def xiD (l:LA) (i:Int):=decide (0<=i)&&decide (i<l.length)
def xny {T:Type} (l:LA) (e:Nat) (d b c i:Int) (a:LA) (δ:T) (κl:(Int×Int×Int×LA)->T) (κr:(Int×Int×Int×LA)->T):T:=br (decide (i<l.length)) (br (xiD l i) (br (decide (i.toNat<l.length)&&xIL (Sh.int .i64) ((l.getD i.toNat .top).cells.getD 0 .top)) (br (((l.getD i.toNat .top).cells.getD 0 .top).toInt==d) (br (xiD l i) (br (decide (i.toNat<l.length)&&xIL (Sh.int .i64) ((l.getD i.toNat .top).cells.getD 1 .top)) (br (xiD l i) (br (decide (i.toNat<l.length)&&xIL (Sh.int .i64) ((l.getD i.toNat .top).cells.getD 2 .top)) (κl (i64.wrap (b+((l.getD i.toNat .top).cells.getD 1 .top).toInt),i64.wrap (c+((l.getD i.toNat .top).cells.getD 2 .top).toInt),i64.wrap (i+1),a)) δ) δ) δ) δ) (κr (b,c,i,a))) δ) δ) (κr (b,c,i,a))
def xhh (l:LA) (b:Nat) (c:Int):StT (Int×Int×Int×LA) (Int×Int×Int×LA):=fun (d,e,i,a)=>xny l b c d e i a none inL inR
def xfY:=xww.l 92 0 [] [] Tryz.f56 1 lk0 [2,7,8,9,10,11,12] [2,7,8,9,10,11,12] [(8,2,50)] (q7 (xI9 57 xJw) (qL 3) (xJH 0 0 0) qI qI qI qI) (q1 (qB 0 2 50 xJz)) (fun (_,l,a,d,e,i,c,_) (b,_)=>(xhh l a c,(d,e,i,b),fun p=>(.leaf (.exit 2) [AV.func 57 [],AV.list 3 l,AV.osl 0 0 0 a,AV.int .i64 p.1,AV.int .i64 p.2.1,AV.int .i64 p.2.2.1,AV.int .i64 c] [bF 0 2 50 p.2.2.2]))) (0,0,0,[]) fun (_,l,a,_,_,_,c,_) _ (d,e,i,b)=>((((),l,a,d,e,i,c,()),(b,())),xny l a c d e i b none)
def xfX (a:Nat):=decide (0<=i64.wrap ((↑a:Int) - 1))&&decide (i64.wrap ((↑a:Int) - 1)<(↑a:Int))
def xlA (l:LA) (b:Nat) (d e i c:Int) (a:LA):=(Iter (xhh l b c) (d,e,i,a)).getD (0,0,0,[])
def xaD (a:Nat):Nat:=0+(i64.wrap ((↑a:Int) - 1)).toNat
def xba (l:LA) (b:Nat) (d e i c:Int) (a:LA):=(xlA l b d e i c a).fst
def xmT (l:LA) (b:Nat) (d e i c:Int) (a:LA):=(xlA l b d e i c a).snd
def xmS (l:LA) (b:Nat) (d e i c:Int) (a:LA):=(xmT l b d e i c a).snd
def xa9 (l:LA) (b:Nat) (d e i c:Int) (a:LA):=(xmT l b d e i c a).fst
def xab (l:LA) (b:Nat) (d e i c:Int) (a:LA):=(xmS l b d e i c a).snd
def xmQ (l:LA) (b:Nat) (d e i c:Int) (a:LA):=xdy (decide (xba l b d e i c a>0)) (decide (xa9 l b d e i c a>0))
def xaf (l:LA) (b:Nat) (d e i c:Int) (a:LA):=(xmS l b d e i c a).fst
def xfW (l:LA) (a:Nat) (d e i c:Int) (b:LA):=decide (xaD a<(xab l a d e i c b).length)
def xmR (l:LA) (b:Nat) (d e i c:Int) (a:LA):=decide (xaf l b d e i c a<l.length)
def xnw {T:Type} (l:LA) (a:Nat) (d e i c:Int) (b:LA) (δ:T) (κl:(Nat×Int×Int×Int×Int×LA)->T) (κr:(Nat×LA)->T):T:=br (decide (c<1099511627776)) (br ((Iter (xhh l a c) (d,e,i,b)).isSome) (br (xmR l a d e i c b) (br (decide (0<=xaf l a d e i c b)&&xmR l a d e i c b) (br (decide ((xaf l a d e i c b).toNat<l.length)&&xIL (Sh.int .i64) ((l.getD (xaf l a d e i c b).toNat .top).cells.getD 0 .top)) (br (xmQ l a d e i c b) (br (decide ((↑a:Int)>0)) (br (xfX a) (br (xfW l a d e i c b&&xIL (Sh.int .i64) (((xab l a d e i c b).getD (xaD a) .top).cells.getD 1 .top)) (br ((((xab l a d e i c b).getD (xaD a) .top).cells.getD 1 .top).toInt==c) (br (xfX a) (br (xfW l a d e i c b) (κl (a,xba l a d e i c b,xa9 l a d e i c b,xaf l a d e i c b,((l.getD (xaf l a d e i c b).toNat .top).cells.getD 0 .top).toInt,(xab l a d e i c b).set (xaD a) (AV.agg (List.take 1 ((xab l a d e i c b).getD (xaD a) .top).cells++[AV.int .i64 ((l.getD (xaf l a d e i c b).toNat .top).cells.getD 0 .top).toInt]++List.drop 2 ((xab l a d e i c b).getD (xaD a) .top).cells)))) δ) δ) (br (a==(xab l a d e i c b).length&&(decide ((a+1)*16<=140737488355328)&&decide (a+1<=4611686018427387904))) (κl (a+1,xba l a d e i c b,xa9 l a d e i c b,xaf l a d e i c b,((l.getD (xaf l a d e i c b).toNat .top).cells.getD 0 .top).toInt,xab l a d e i c b++[AV.agg [AV.int .i64 c,AV.int .i64 ((l.getD (xaf l a d e i c b).toNat .top).cells.getD 0 .top).toInt]])) δ)) δ) δ) (br (a==(xab l a d e i c b).length&&(decide ((a+1)*16<=140737488355328)&&decide (a+1<=4611686018427387904))) (κl (a+1,xba l a d e i c b,xa9 l a d e i c b,xaf l a d e i c b,((l.getD (xaf l a d e i c b).toNat .top).cells.getD 0 .top).toInt,xab l a d e i c b++[AV.agg [AV.int .i64 c,AV.int .i64 ((l.getD (xaf l a d e i c b).toNat .top).cells.getD 0 .top).toInt]])) δ)) (κl (a,xba l a d e i c b,xa9 l a d e i c b,xaf l a d e i c b,((l.getD (xaf l a d e i c b).toNat .top).cells.getD 0 .top).toInt,xab l a d e i c b))) δ) δ) (br (xmQ l a d e i c b) (br (decide ((↑a:Int)>0)) (br (xfX a) (br (xfW l a d e i c b&&xIL (Sh.int .i64) (((xab l a d e i c b).getD (xaD a) .top).cells.getD 1 .top)) (br ((((xab l a d e i c b).getD (xaD a) .top).cells.getD 1 .top).toInt==c) (br (xfX a) (br (xfW l a d e i c b) (κl (a,xba l a d e i c b,xa9 l a d e i c b,xaf l a d e i c b,1099511627776,(xab l a d e i c b).set (xaD a) (AV.agg (List.take 1 ((xab l a d e i c b).getD (xaD a) .top).cells++[AV.int .i64 1099511627776]++List.drop 2 ((xab l a d e i c b).getD (xaD a) .top).cells)))) δ) δ) (br (a==(xab l a d e i c b).length&&(decide ((a+1)*16<=140737488355328)&&decide (a+1<=4611686018427387904))) (κl (a+1,xba l a d e i c b,xa9 l a d e i c b,xaf l a d e i c b,1099511627776,xab l a d e i c b++[AV.agg [AV.int .i64 c,AV.int .i64 1099511627776]])) δ)) δ) δ) (br (a==(xab l a d e i c b).length&&(decide ((a+1)*16<=140737488355328)&&decide (a+1<=4611686018427387904))) (κl (a+1,xba l a d e i c b,xa9 l a d e i c b,xaf l a d e i c b,1099511627776,xab l a d e i c b++[AV.agg [AV.int .i64 c,AV.int .i64 1099511627776]])) δ)) (κl (a,xba l a d e i c b,xa9 l a d e i c b,xaf l a d e i c b,1099511627776,xab l a d e i c b)))) δ) (κr (a,b))
def xlk (l:LA):StT (Nat×Int×Int×Int×Int×LA) (Nat×LA):=fun (b,d,e,i,c,a)=>xnw l b d e i c a none inL inR
def xmP:=xww.l 92 0 [] [(6,xfY.lp)] Tryz.f56 0 (lk1 xfY.ok) [2,7,8,9,10,11,12] [8] [(8,2,50)] (q7 (xI9 57 xJw) (qL 3) (xJH 0 0 0) qI qI qI qI) (q1 (qB 0 2 50 xJz)) (fun (_,l,b,d,e,i,c,_) (a,_)=>(xlk l,(b,d,e,i,c,a),fun p=>(.leaf (.exit 0) [AV.osl 0 0 0 p.1] [bF 0 2 50 p.2]))) (0,[]) fun (_,l,_,_,_,_,_,_) _ (b,d,e,i,c,a)=>((((),l,b,d,e,i,c,()),(a,())),xnw l b d e i c a none)
def xpm (a b:LA):=Iter (xlk ((xfV a b).getD [])) (0,0,0,0,0,[])
def xpl (a b:LA):=(xpm a b).getD (0,[])
def xpj (a b:LA):=(xpl a b).snd
def xpk (a b:LA):=(xpl a b).fst
def xp9 {T:Type} (a b:LA) (δ:T) (κ:LA->T):T:=br ((xfV a b).isSome) (br ((xpm a b).isSome) (br (decide (0+xpk a b<=(xpj a b).length)&&true) (κ (List.take (xpk a b) (List.drop 0 (xpj a b)))) δ) δ) δ
def xoG (a b:LA):=xp9 a b none some
def xFC:EO:=xww.f Tryz.func56 92 0 [] [(6,xfY.lp),(5,xmP.lp)] (lks (lkC xmP.ok (lkC xfY.ok lkN))) (u3 (uL 2) (uL 2) (sEq (xI9 (57:FuncId) xJw))) (fun (a,b,_,_) _=>xp9 a b) (fun _ p=>AV.list 2 p) []
def xkf {T:Type} (a b:LA) (δ:T) (κ:LA->T):T:=br ((xoG a b).isSome) (κ ((xoG a b).getD [])) δ
def xgC (a b:LA):=xkf a b none some
def xwy:EO:=xFC.f Tryz.func32 8 0 [] [] lk0 (u2 (uL 2) (uL 2)) (fun (a,b,_) _=>xkf a b) (fun _ p=>AV.list 2 p) []
def xd0 {T:Type} (h:LA) (i j:Int) (e:LA) (f:Int) (d:Nat) (c:Int) (a b g:LA) (δ:T) (κl:(Nat×Int×LA×LA×LA)->T) (κr:(Nat×LA)->T):T:=br (decide (c<f)) (br (ixI e c) (br (ixT e c 2 [Sh.int .i64,Sh.int .i64] 0) (br (decide (b.length*32<=140737488355328)&&decide (b.length<=4611686018427387904)) (br (decide (0+b.length<=b.length)&&true&&true&&true&&true) (br (rmB d a 1 40) (κl (d+1,i64.wrap (c+1),a++[AV.agg [AV.list 3 (List.take b.length (List.drop 0 b)),AV.int .i64 (gC e c 0).toInt,AV.int .i64 (gC e c 1).toInt]],b,g)) δ) δ) δ) δ) δ) (κr (d,a))
def xbs (c:LA) (d e:Int) (f:LA) (g:Int):StT (Nat×Int×LA×LA×LA) (Nat×LA):=fun (b,h,a,i,j)=>xd0 c d e f g b h a i j none inL inR
def xdD:=xwy.l 38 0 [58] [] Tryz.f55 1 lk0 [1,5,7,11,12,13,20,21,22] [1,5,11,12,13] [(5,3,58)] (q9 (xI9 43 xJw) (xJH 0 0 0) (xJI 1 0 0 0) (qL 2) qI qI (qL 2) qI qI) (q2 (qB 0 3 58 xJz) (qB 0 2 128 (q1 (xJJ (q2 (qL 3) (qL 2)))))) (fun (_,b,_,c,d,e,f,g,h,_) (a,((i,j,_),_),_)=>(xbs c d e f g,(b,h,a,i,j),fun p=>(.leaf (.exit 2) [AV.func 43 [],AV.osl 0 0 0 p.1,AV.list 2 c,AV.int .i64 d,AV.int .i64 e] [bF 0 3 58 p.2]))) (0,[]) fun (_,_,_,c,d,e,f,g,_,_) _ (b,h,a,i,j)=>((((),b,(),c,d,e,f,g,h,()),(a,((i,j,()),()),())),xd0 c d e f g b h a i j none)
def xf7 (a:LA) (e:Int) (d:Nat) (b:Int) (c:LA):=Iter (xbs a e b ((xkt (gC a b 1).toList).getD []) (↑((xkt (gC a b 1).toList).getD []).length:Int)) (d,0,c,(gC a b 0).toList,(gC a b 1).toList)
def xf6 (c:LA) (d:Int) (b:Nat) (e:Int) (a:LA):=(xf7 c d b e a).getD (0,[])
def xdx {T:Type} (d:LA) (e:Int) (c:Nat) (b:Int) (a:LA) (δ:T) (κl:(Nat×Int×LA)->T) (κr:(Nat×LA)->T):T:=br (decide (b<e)) (br (ixI d b) (br (ixT d b 2 [Sh.list 3,Sh.list 2] 0) (br ((xkt (gC d b 1).toList).isSome) (br ((xf7 d e c b a).isSome) (κl ((xf6 d e c b a).fst,i64.wrap (b+1),(xf6 d e c b a).snd)) δ) δ) δ) δ) (κr (c,a))
def xbT (c:LA) (d:Int):StT (Nat×Int×LA) (Nat×LA):=fun (b,e,a)=>xdx c d b e a none inL inR
def xjB:=xwy.l 38 0 [58] [(6,xdD.lp)] Tryz.f55 0 (lk1 xdD.ok) [1,5,11,12,13] [5] [(5,3,58)] (q5 (xI9 43 xJw) (xJH 0 0 0) (qL 2) qI qI) (q1 (qB 0 3 58 xJz)) (fun (_,b,c,d,e,_) (a,_)=>(xbT c d,(b,e,a),fun p=>(.leaf (.exit 0) [AV.osl 0 0 0 p.1] [bF 0 3 58 p.2]))) (0,[]) fun (_,_,c,d,_,_) _ (b,e,a)=>((((),b,c,d,e,()),(a,())),xdx c d b e a none)
def xhN (l:LA):=Iter (xbT ((xht l).getD []) (↑((xht l).getD []).length:Int)) (0,0,[])
def xhM (l:LA):=(xhN l).getD (0,[])
def xhK (l:LA):=(xhM l).fst
def xhL (l:LA):=(xhM l).snd
def xif {T:Type} (l:LA) (δ:T) (κ:LA->T):T:=br ((xht l).isSome) (br ((xhN l).isSome) (br (decide (0+xhK l<=(xhL l).length)&&true) (κ (List.take (xhK l) (List.drop 0 (xhL l)))) δ) δ) δ
def xjx (l:LA):=xif l none some
def xFD:EO:=xwy.f Tryz.func55 38 0 [58] [(6,xdD.lp),(3,xjB.lp)] (lks (lkC xjB.ok (lkC xdD.ok lkN))) (u2 (uL 3) (sEq (xI9 (43:FuncId) xJw))) (fun (l,_,_) _=>xif l) (fun _ p=>AV.list 3 p) []
def xlR {T:Type} (l:LA) (δ:T) (κ:LA->T):T:=br ((xjx l).isSome) (κ ((xjx l).getD [])) δ
def xie (l:LA):=xlR l none some
def xBt:EO:=xFD.f Tryz.func31 5 0 [] [] lk0 (u1 (uL 3)) (fun (l,_) _=>xlR l) (fun _ p=>AV.list 3 p) []
def xfO (b a:Bool):Int:=(br (b) (((-1))) (br (a) ((1)) ((0))))
def xyE {T:Type} (b a:Bool) (δ:T) (κ:Int->T):T:=br (b) (κ ((-1))) (br (a) (κ (1)) (κ (0)))
def xFE:EO:=xBt.fT Tryz.func73 7 0 [] [] lk0 (fun (b,a,_)=>xyE b a none) (u2 (sEq pBool) (sEq pBool)) (fun (b,a,_)=>xfO b a) (fun _ p=>(AV.int .i64 p))
def xhz (a b:Int) (c:List UInt8) (d e:Int) (f:List UInt8):Int:=(br (a != d) ((xfO (decide (a<d)) (decide (a>d)))) (br (b != e) ((xfO (decide (b<e)) (decide (b>e)))) ((xfO (Op.bytesLess c f) !(Op.bytesLess c f || c==f)))))
def xtx {T:Type} (a b:Int) (c:List UInt8) (d e:Int) (f:List UInt8) (δ:T) (κ:Int->T):T:=br (a != d) (κ (xfO (decide (a<d)) (decide (a>d)))) (br (b != e) (κ (xfO (decide (b<e)) (decide (b>e)))) (κ (xfO (Op.bytesLess c f) !(Op.bytesLess c f || c==f))))
def xBu:EO:=xFE.fT Tryz.func42 48 0 [] [] lk0 (fun ((a,b,c,_),(d,e,f,_),_)=>xtx a b c d e f none) (u2 (xJM (u3 uI uI (sEq pStr))) (xJM (u3 uI uI (sEq pStr)))) (fun ((a,b,c,_),(d,e,f,_),_)=>xhz a b c d e f) (fun _ p=>(AV.int .i64 p))
def xct (a b:LA) (i:Int):=xhz (gC a i 0).toInt (gC a i 1).toInt (gC a i 2).toStr (gC b i 0).toInt (gC b i 1).toInt (gC b i 2).toStr
def xcK {T:Type} (a b:LA) (i:Int) (δ:T) (κl:(Int)->T) (κr:(Bool×(Int)×(Unit))->T):T:=br (decide (i<a.length)) (br (decide (i<b.length)) (br (ixI a i) (br (ixT a i 3 [Sh.int .i64,Sh.int .i64,Sh.str] 0) (br (ixI b i) (br (ixT b i 3 [Sh.int .i64,Sh.int .i64,Sh.str] 0) (br (xct a b i != 0) (κr (true,(xct a b i),())) (κl (i64.wrap (i+1)))) δ) δ) δ) δ) (κr (false,0,()))) (κr (false,0,()))
def xaJ (a b:LA):StT (Int) (Bool×(Int)×(Unit)):=fun (i)=>xcK a b i none inL inR
def xlw:=xBu.l 41 0 [] [] Tryz.f17 0 lk0 [0,1,5] [0,1,4] [] (q3 (qL 3) (qL 3) qI) xJw (fun (a,b,i,_) _=>(xaJ a b,(i),fun p=>(.node p.1 (.leaf .ret [AV.list 3 a,AV.list 3 b,AV.int .i64 p.2.1] []) (.leaf (.exit 0) [AV.list 3 a,AV.list 3 b,.top] [])))) (false,0,()) fun (a,b,_,_) _ (i)=>(((a,b,i,()),()),xcK a b i none)
def xk8 {T:Type} (a b:LA) (δ:T) (κ:Int->T):T:=br ((Iter (xaJ a b) 0).isSome) (br (((Iter (xaJ a b) 0).getD (false,0,())).fst) (κ (((Iter (xaJ a b) 0).getD (false,0,())).snd.fst)) (br (decide ((↑a.length:Int)<(↑b.length:Int))) (κ ((-1))) (br (decide ((↑a.length:Int)>(↑b.length:Int))) (κ (1)) (κ (0))))) δ
def xm7 (a b:LA):=xk8 a b none some
def xFF:EO:=xBu.f Tryz.func17 41 0 [] [(2,xlw.lp)] (lk1 xlw.ok) (u2 (uL 3) (uL 3)) (fun (a,b,_) _=>xk8 a b) (fun _ p=>AV.int .i64 p) 0
def xhG (a b:Int):Bool:=(br (decide (a>=0)) (br (decide (a<b)) ((decide (b<=1099511627776))) ((false))) ((false)))
def xwb {T:Type} (a b:Int) (δ:T) (κ:Bool->T):T:=br (decide (a>=0)) (br (decide (a<b)) (κ (decide (b<=1099511627776))) (κ (false))) (κ (false))
def xBv:EO:=xFF.fT Tryz.func46 18 0 [] [] lk0 (fun ((a,b,_),_)=>xwb a b none) (u1 (xJM (u2 uI uI))) (fun ((a,b,_),_)=>xhG a b) (fun _ p=>(AV.bool p))
def xlV (a b t:Int):Bool:=(br (xhG a b) (br (decide (a<=t)) ((decide (t<b))) ((false))) ((false)))
def xh0 {T:Type} (a b:LA) (i:Int) (δ:T) (κl:(Int)->T) (κr:(Bool×(Bool)×(Unit))->T):T:=br (decide (i<a.length)) (br (ixI a i) (br (ixT a i 2 [Sh.int .i64,Sh.int .i64] 0) (br (ixI b i) (br (ixT b i 2 [Sh.int .i64,Sh.int .i64] 0) (br (!((gC a i 0).toInt==(gC b i 0).toInt&&((gC a i 1).toInt==(gC b i 1).toInt&&true))) (κr (true,(false),())) (κl (i64.wrap (i+1)))) δ) δ) δ) δ) (κr (false,false,()))
def xbB (a b:LA):StT (Int) (Bool×(Bool)×(Unit)):=fun (i)=>xh0 a b i none inL inR
def xog:=xBv.l 26 0 [] [] Tryz.f18 0 lk0 [0,1,5] [4] [] (q3 (qL 2) (qL 2) qI) xJw (fun (a,b,i,_) _=>(xbB a b,(i),fun p=>(.node p.1 (.leaf .ret [AV.bool p.2.1] []) (.leaf (.exit 0) [.top] [])))) (false,false,()) fun (a,b,_,_) _ (i)=>(((a,b,i,()),()),xh0 a b i none)
def xoh {T:Type} (a b:LA) (δ:T) (κ:Bool->T):T:=br ((↑a.length:Int) != (↑b.length:Int)) (κ (false)) (br ((Iter (xbB a b) 0).isSome) (br (((Iter (xbB a b) 0).getD (false,false,())).fst) (κ (((Iter (xbB a b) 0).getD (false,false,())).snd.fst)) (κ (true))) δ)
def xqB (a b:LA):=xoh a b none some
def xFG:EO:=xBv.f Tryz.func18 26 0 [] [(4,xog.lp)] (lk1 xog.ok) (u2 (uL 2) (uL 2)) (fun (a,b,_) _=>xoh a b) (fun _ p=>AV.bool p) false
def xA3:Int×Int×List UInt8:=((0,0,[]))
def xyD {T:Type} (δ:T) (κ:Int×Int×List UInt8->T):T:=κ (0,0,[])
def xrY:EO:=xFG.fT Tryz.func101 2 0 [] [] lk0 (fun _=>xyD none) xJy (fun _=>xA3) (fun _ p=>(AV.agg [AV.int .i64 p.1,AV.int .i64 p.2.1,AV.str p.2.2]))
def xcz (k:Nat) (a:LA):=(List.take ((i64.wrap ((↑k:Int) - 1)).toNat - 0) (List.drop 0 a)).length
def xjN (k:Nat) (a:LA):=decide (0+(i64.wrap ((↑k:Int) - 1)).toNat<a.length)
def xhw (k:Nat) (a:LA):=((a.getD (0+(i64.wrap ((↑k:Int) - 1)).toNat) .top).cells.getD 1 .top).toInt
def xjO (k:Nat):=decide (0<=i64.wrap ((↑k:Int) - 1))
def xhv (k:Nat):=xjO k&&decide (i64.wrap ((↑k:Int) - 1)<(↑k:Int))
def xjM (k:Nat) (a:LA):=xjN k a&&xIL (Sh.int .i64) ((a.getD (0+(i64.wrap ((↑k:Int) - 1)).toNat) .top).cells.getD 1 .top)
def xiZ {T:Type} (k:Nat) (a b:Int) (c:LA) (δ:T) (κ:Bool×(Nat×LA×LA)×(Nat×LA)->T):T:=br (rmB k c 1 16) (κ (false,(0,[],[]),(k+1,c++[AV.agg [AV.int .i64 a,AV.int .i64 b]]))) δ
def xoj {T:Type} (k:Nat) (b c:Int) (a:LA) (δ:T) (κ:Bool×(Nat×LA×LA)×(Nat×LA)->T):T:=br (decide ((↑k:Int)>0)) (br (xhv k) (br (xjM k a) (br (decide (xhw k a>=b)) (br (xjO k&&decide (i64.wrap ((↑k:Int) - 1)<=(↑k:Int))&&true) (br (decide (0+((i64.wrap ((↑k:Int) - 1)).toNat - 0)<=a.length)&&(decide (xcz k a*16<=140737488355328)&&decide (xcz k a<=4611686018427387904))) (br (xhv k) (br (xjN k a&&xIL (Sh.int .i64) ((a.getD (0+(i64.wrap ((↑k:Int) - 1)).toNat) .top).cells.getD 0 .top)) (br (xhv k) (br (xjM k a) (br (xcz k a==xcz k a&&(decide ((xcz k a+1)*16<=140737488355328)&&decide (xcz k a+1<=4611686018427387904))) (κ (true,(xcz k a+1,a,List.take ((i64.wrap ((↑k:Int) - 1)).toNat - 0) (List.drop 0 a)++[AV.agg [AV.int .i64 ((a.getD (0+(i64.wrap ((↑k:Int) - 1)).toNat) .top).cells.getD 0 .top).toInt,AV.int .i64 (if c>xhw k a then c else xhw k a)]]),(0,[]))) δ) δ) δ) δ) δ) δ) δ) (xiZ k b c a δ κ)) δ) δ) (xiZ k b c a δ κ)
def xk7 (k:Nat) (a b:Int) (c:LA):=xoj k a b c none some
def xgg {T:Type} (l:LA) (n:Int) (b:Nat) (i:Int) (a:LA) (δ:T) (κl:(Nat×Int×LA)->T) (κr:(Nat×Int×LA)->T):T:=br (decide (i<l.length)) (br (ixI l i) (br (ixS l i (Sh.int .i64) 0) (br (decide ((gC l i 0).toInt<n)) (br (ixI l i) (br (ixS l i (Sh.int .i64) 0) (br (rmB b a 1 8) (κl (b+1,i64.wrap (i+1),a++[AV.int .i64 (gC l i 0).toInt])) δ) δ) δ) (κr (b,i,a))) δ) δ) (κr (b,i,a))
def xb4 (l:LA) (n:Int):StT (Nat×Int×LA) (Nat×Int×LA):=fun (b,i,a)=>xgg l n b i a none inL inR
def xjd {T:Type} (l:LA) (b:Nat) (i:Int) (a:LA) (δ:T) (κl:(Nat×Int×LA)->T) (κr:(Nat×LA)->T):T:=br (decide (i<l.length)) (br (ixI l i) (br (ixS l i (Sh.int .i64) 0) (br (rmB b a 1 8) (κl (b+1,i64.wrap (i+1),a++[AV.int .i64 (gC l i 0).toInt])) δ) δ) δ) (κr (b,a))
def xb5 (l:LA):StT (Nat×Int×LA) (Nat×LA):=fun (b,i,a)=>xjd l b i a none inL inR
def xe8 (l:LA) (n:Int):=(Iter (xb4 l n) (0,0,[])).getD (0,0,[])
def xdr (l:LA) (n:Int):=(xe8 l n).fst
def xe7 (l:LA) (n:Int):=(xe8 l n).snd
def xa5 (l:LA) (n:Int):=(xe7 l n).fst
def xdp (l:LA) (n:Int):=xdr l n+1
def xdq (l:LA) (n:Int):=(xe7 l n).snd
def xfJ (l:LA) (n:Int):=Iter (xb5 l) (xdp l n,xa5 l n,xdq l n++[AV.int .i64 n])
def xfN (l:LA) (n:Int):=Iter (xb5 l) (xdr l n,xa5 l n,xdq l n)
def xgZ (l:LA) (n:Int):=xdr l n==(xdq l n).length
def xfI (l:LA) (n:Int):=(xfJ l n).getD (0,[])
def xh1 (l:LA) (n:Int):=(xfJ l n).isSome
def xfM (l:LA) (n:Int):=(xfN l n).getD (0,[])
def xfG (l:LA) (n:Int):=(xfI l n).fst
def xfH (l:LA) (n:Int):=(xfI l n).snd
def xfK (l:LA) (n:Int):=(xfM l n).snd
def xfL (l:LA) (n:Int):=(xfM l n).fst
def xj9 {T:Type} (l:LA) (n:Int) (δ:T) (κ:LA->T):T:=br (xgZ l n&&(decide (xdp l n*8<=140737488355328)&&decide (xdp l n<=4611686018427387904))) (br (xh1 l n) (br (decide (0+xfG l n<=(xfH l n).length)&&true) (κ (List.take (xfG l n) (List.drop 0 (xfH l n)))) δ) δ) δ
def xp4 {T:Type} (l:LA) (n:Int) (δ:T) (κ:LA->T):T:=br ((Iter (xb4 l n) (0,0,[])).isSome) (br (xa5 l n==(↑l.length:Int)) (xj9 l n δ κ) (br (decide (0<=xa5 l n)&&decide (xa5 l n<l.length)) (br (decide ((xa5 l n).toNat<l.length)&&xIL (Sh.int .i64) ((l.getD (xa5 l n).toNat .top).cells.getD 0 .top)) (br (decide (((l.getD (xa5 l n).toNat .top).cells.getD 0 .top).toInt>n)) (xj9 l n δ κ) (br ((xfN l n).isSome) (br (decide (0+xfL l n<=(xfK l n).length)&&true) (κ (List.take (xfL l n) (List.drop 0 (xfK l n)))) δ) δ)) δ) δ)) δ
def xe6 (l:LA) (n:Int):=xp4 l n none some
def xhy {T:Type} (k:Nat) (a n:Int) (b:LA) (δ:T) (κ:Bool×(Nat×LA)×(Nat×LA)->T):T:=br (rmB k b 1 16) (κ (false,(0,[]),(k+1,b++[AV.agg [AV.int .i64 a,AV.int .i64 n]]))) δ
def xmz {T:Type} (k:Nat) (a n:Int) (b:LA) (δ:T) (κ:Bool×(Nat×LA)×(Nat×LA)->T):T:=br (decide ((↑k:Int)>0)) (br (decide (0<=i64.wrap ((↑k:Int) - 1))&&decide (i64.wrap ((↑k:Int) - 1)<(↑k:Int))) (br (decide (0+(i64.wrap ((↑k:Int) - 1)).toNat<b.length)&&xIL (Sh.int .i64) ((b.getD (0+(i64.wrap ((↑k:Int) - 1)).toNat) .top).cells.getD 1 .top)) (br (((b.getD (0+(i64.wrap ((↑k:Int) - 1)).toNat) .top).cells.getD 1 .top).toInt==n) (κ (true,(k,b),(0,[]))) (xhy k a n b δ κ)) δ) δ) (xhy k a n b δ κ)
def xpd (k:Nat) (a n:Int) (b:LA):=xmz k a n b none some
def xi1 {T:Type} (l:LA) (i:Int) (δ:T) (κl:(Int)->T) (κr:(Bool×(Bool)×(Unit))->T):T:=br (decide (i<l.length)) (br (ixI l i) (br (ixS l i (Sh.list 3) 0) (br (decide ((↑(gC l i 0).toList.length:Int)>60)) (κr (true,(false),())) (κl (i64.wrap (i+1)))) δ) δ) (κr (false,false,()))
def xck (l:LA):StT (Int) (Bool×(Bool)×(Unit)):=fun (i)=>xi1 l i none inL inR
def xph:=xrY.l 23 0 [] [] Tryz.f27 0 lk0 [0,5] [4] [] (q2 (qL 3) qI) xJw (fun (l,i,_) _=>(xck l,(i),fun p=>(.node p.1 (.leaf .ret [AV.bool p.2.1] []) (.leaf (.exit 0) [.top] [])))) (false,false,()) fun (l,_,_) _ (i)=>(((l,i,()),()),xi1 l i none)
def xpL {T:Type} (l:LA) (a:Int) (δ:T) (κ:Bool->T):T:=br (decide ((↑l.length:Int)>a)) (κ (false)) (br ((Iter (xck l) 0).isSome) (br (((Iter (xck l) 0).getD (false,false,())).fst) (κ (((Iter (xck l) 0).getD (false,false,())).snd.fst)) (κ (true))) δ)
def xpg (l:LA) (a:Int):=xpL l a none some
def xFH:EO:=xrY.f Tryz.func27 23 0 [] [(4,xph.lp)] (lk1 xph.ok) (u2 (uL 3) uI) (fun (l,a,_) _=>xpL l a) (fun _ p=>AV.bool p) false
def xBl:Int×Int×List UInt8:=((0,0,[]))
def xyT {T:Type} (δ:T) (κ:Int×Int×List UInt8->T):T:=κ (0,0,[])
def xFp:EO:=xwr.fT Tryz.func119 2 0 [] [] lk0 (fun _=>xyT none) xJy (fun _=>xBl) (fun _ p=>(AV.agg [AV.int .i64 p.1,AV.int .i64 p.2.1,AV.str p.2.2]))
def xqP {T:Type} (a:LA) (i:Int) (δ:T) (κ:Int×Int×List UInt8->T):T:=br (decide (i<0)) (κ (0,0,[])) (br (decide (i>=a.length)) (κ (0,0,[])) (br (ixI a i) (br (ixT a i 3 [Sh.int .i64,Sh.int .i64,Sh.str] 0) (κ ((gC a i 0).toInt,(gC a i 1).toInt,(gC a i 2).toStr)) δ) δ))
def xqO (a:LA) (i:Int):=xqP a i none some
def xBq:EO:=xFp.f Tryz.func90 18 0 [] [] lk0 (u2 (uL 3) uI) (fun (a,i,_) _=>xqP a i) (fun _ p=>AV.agg [AV.int .i64 p.1,AV.int .i64 p.2.1,AV.str p.2.2]) (0,0,[])
def xhm (a b:LA) (c:Int):=(xqO a (gC b c 0).toInt).getD (0,0,[])
def xhl (a b:LA) (c:Int):=(xhm a b c).snd
def xia {T:Type} (e c:LA) (f:Int) (d:Nat) (a:Int) (b:LA) (δ:T) (κl:(Nat×Int×LA)->T) (κr:(Nat×LA)->T):T:=br (decide (a<f)) (br (ixI c a) (br (ixS c a (Sh.int .i64) 0) (br ((xqO e (gC c a 0).toInt).isSome) (br (rmB d b 1 32) (κl (d+1,i64.wrap (a+1),b++[AV.agg [AV.int .i64 (xhm e c a).fst,AV.int .i64 (xhl e c a).fst,AV.str (xhl e c a).snd]])) δ) δ) δ) δ) (κr (d,b))
def xcQ (c d:LA) (e:Int):StT (Nat×Int×LA) (Nat×LA):=fun (b,f,a)=>xia c d e b f a none inL inR
def xoO:=xBq.l 25 0 [] [] Tryz.f62 0 lk0 [0,5,11,12,13] [5] [(5,3,64)] (q5 (qL 3) (xJH 0 0 0) (qL 1) qI qI) (q1 (qB 0 3 64 xJz)) (fun (c,b,d,e,f,_) (a,_)=>(xcQ c d e,(b,f,a),fun p=>(.leaf (.exit 0) [AV.osl 0 0 0 p.1] [bF 0 3 64 p.2]))) (0,[]) fun (c,_,d,e,_,_) _ (b,f,a)=>(((c,b,d,e,f,()),(a,())),xia c d e b f a none)
def xnp (a l:LA):=(Iter (xcQ a l (↑l.length:Int)) (0,0,[])).getD (0,[])
def xnn (a l:LA):=(xnp a l).fst
def xno (a l:LA):=(xnp a l).snd
def xoP {T:Type} (a l:LA) (δ:T) (κ:LA->T):T:=br (decide (32*(↑l.length:Int)<=281474976710656)&&decide ((↑l.length:Int)<=4611686018427387904)) (br ((Iter (xcQ a l (↑l.length:Int)) (0,0,[])).isSome) (br (decide (0+xnn a l<=(xno a l).length)&&true) (κ (List.take (xnn a l) (List.drop 0 (xno a l)))) δ) δ) δ
def xnQ (a l:LA):=xoP a l none some
def xFq:EO:=xBq.f Tryz.func62 25 0 [] [(3,xoO.lp)] (lk1 xoO.ok) (u2 (uL 3) (uL 1)) (fun (a,l,_) _=>xoP a l) (fun _ p=>AV.list 3 p) []
def xoC {T:Type} (f:List UInt8) (c a d e b:LA) (δ:T) (κ:LA->T):T:=br ((xnQ b a).isSome) (κ ((xnQ b a).getD [])) δ
def xc8 (e:List UInt8) (b a c d f:LA):=xoC e b a c d f none some
def xyL:LA->Option (Bool×AV):=fnO (u2 (xJM (u5 (sEq pStr) (uL 3) (uL 1) (uL 2) (uL 7))) (uL 3)) (fun ((e,b,a,c,d,_),f,_) _=>xoC e b a c d f) (fun _ p=>AV.list 3 p) []
theorem xyK:OcOk P0 xJt 34 xyL:=fnC xFq.ok Tryz.func34 9 0 [] [] lk0
def xeL {T:Type} (a:List UInt8) (i:Int) (δ:T) (κl:(Int)->T) (κr:(Bool×(Bool)×(Unit))->T):T:=br (decide (i<a.length)) (br (decide (0<=i)&&decide (i<a.length)) (br (decide ((↑(a.getD i.toNat (0:UInt8)).toNat:Int)<32)) (κr (true,(false),())) (br (decide (0<=i)&&decide (i<a.length)) (br (decide ((↑(a.getD i.toNat (0:UInt8)).toNat:Int)>126)) (κr (true,(false),())) (κl (i64.wrap (i+1)))) δ)) δ) (κr (false,false,()))
def xa0 (a:List UInt8):StT (Int) (Bool×(Bool)×(Unit)):=fun (i)=>xeL a i none inL inR
def xkq:=xrY.l 20 0 [] [] Tryz.f128 0 lk0 [0,3] [2] [] (q2 pStr qI) xJw (fun (a,i,_) _=>(xa0 a,(i),fun p=>(.node p.1 (.leaf .ret [AV.bool p.2.1] []) (.leaf (.exit 0) [.top] [])))) (false,false,()) fun (a,_,_) _ (i)=>(((a,i,()),()),xeL a i none)
def xjl {T:Type} (a:List UInt8) (δ:T) (κ:Bool->T):T:=br ((Iter (xa0 a) 0).isSome) (br (((Iter (xa0 a) 0).getD (false,false,())).fst) (κ (((Iter (xa0 a) 0).getD (false,false,())).snd.fst)) (κ (true))) δ
def xh2 (a:List UInt8):=xjl a none some
def xBz:EO:=xrY.f Tryz.func128 20 0 [] [(2,xkq.lp)] (lk1 xkq.ok) (u1 (sEq pStr)) (fun (a,_) _=>xjl a) (fun _ p=>AV.bool p) false
def xm6 {T:Type} (c a:Int) (b:List UInt8) (δ:T) (κ:Bool->T):T:=br (c==0) (br (a==0) (κ (b==[])) (κ (false))) (br (c==1) (br (b==[]) (br (decide (a>=(-1125899906842624))) (κ (decide (a<=1125899906842624))) (κ (false))) (κ (false))) (br (c==2) (br (a==0) (br (decide ((↑b.length:Int)<=200)) (br ((xh2 b).isSome) (κ ((xh2 b).getD false)) δ) (κ (false))) (κ (false))) (br (c==3) (br (b==[]) (br (a==0) (κ (true)) (κ (a==1))) (κ (false))) (κ (false)))))
def xjH (a b:Int) (c:List UInt8):=xm6 a b c none some
def xwc:LA->Option (Bool×AV):=fnO (u1 (xJM (u3 uI uI (sEq pStr)))) (fun ((a,b,c,_),_) _=>xm6 a b c) (fun _ p=>AV.bool p) false
theorem xqZ:OcOk P0 xJt 108 xwc:=fnC xBz.ok Tryz.func108 61 0 [] [] lk0
def xFK:EO:=xBz.w xqZ
def xhH (a:Int):Int×Int:=(br (a==1) ((0,0)) (br (a==2) ((0,0)) (br (a==4) ((1,1)) (br (a==18) ((1,1)) (br (a==20) ((1,1)) (br (a==21) ((1,1)) (br (a==5) ((2,1099511627776)) (br (a==6) ((2,1099511627776)) (br (a==7) ((2,2)) (br (a==8) ((2,2)) (br (a==9) ((2,2)) (br (a==10) ((2,2)) (br (a==11) ((2,2)) (br (a==12) ((2,2)) (br (a==13) ((2,2)) (br (a==14) ((2,2)) (br (a==15) ((2,2)) (br (a==16) ((2,2)) (br (a==17) ((2,2)) (br (a==19) ((2,2)) (br (a==22) ((3,3)) (br (a==23) ((1,1099511627776)) (br (a==24) ((4,4)) (((-1),0)))))))))))))))))))))))))
def xwd {T:Type} (a:Int) (δ:T) (κ:Int×Int->T):T:=br (a==1) (κ (0,0)) (br (a==2) (κ (0,0)) (br (a==4) (κ (1,1)) (br (a==18) (κ (1,1)) (br (a==20) (κ (1,1)) (br (a==21) (κ (1,1)) (br (a==5) (κ (2,1099511627776)) (br (a==6) (κ (2,1099511627776)) (br (a==7) (κ (2,2)) (br (a==8) (κ (2,2)) (br (a==9) (κ (2,2)) (br (a==10) (κ (2,2)) (br (a==11) (κ (2,2)) (br (a==12) (κ (2,2)) (br (a==13) (κ (2,2)) (br (a==14) (κ (2,2)) (br (a==15) (κ (2,2)) (br (a==16) (κ (2,2)) (br (a==17) (κ (2,2)) (br (a==19) (κ (2,2)) (br (a==22) (κ (3,3)) (br (a==23) (κ (1,1099511627776)) (br (a==24) (κ (4,4)) (κ ((-1),0))))))))))))))))))))))))
def xFL:EO:=xFK.fT Tryz.func149 35 0 [7000000] [] lk0 (fun (a,_)=>xwd a none) (u1 uI) (fun (a,_)=>xhH a) (fun _ p=>(AV.tuple [AV.int .i64 p.1,AV.int .i64 p.2]))
def xlW {T:Type} (a f b c:Int) (d g:List UInt8) (e:LA) (δ:T) (κ:Bool->T):T:=br (decide ((xhH a).fst<0)) (κ (false)) (br (decide ((↑e.length:Int)<(xhH a).fst)) (κ (false)) (br (decide ((↑e.length:Int)>(xhH a).snd)) (κ (false)) (br (!g==[]) (κ (false)) (br (a==1) (br (f==0) (br ((xjH b c d).isSome) (κ ((xjH b c d).getD false)) δ) (κ (false))) (br (a==2) (κ (b==0&&(c==0&&(d==[]&&true)))) (br (a==24) (br (b==0&&(c==0&&(d==[]&&true))) (br (decide (f>=0)) (κ (decide (f<13))) (κ (false))) (κ (false))) (br (f==0) (κ (b==0&&(c==0&&(d==[]&&true)))) (κ (false)))))))))
def xk9 (b g c d:Int) (e f:List UInt8) (a:LA):=xlW b g c d e f a none some
def xBA:EO:=xFL.f Tryz.func150 75 0 [] [] lk0 (u1 (xJM (u7 uI uI uI uI (sEq pStr) (sEq pStr) (uL 7)))) (fun ((b,h,c,d,e,g,a,_),_) _=>xlW b h c d e g a) (fun _ p=>AV.bool p) false
def xi0 {T:Type} (l:LA) (a i:Int) (δ:T) (κl:(Int)->T) (κr:(Bool×(Bool)×(Unit))->T):T:=br (decide (i<l.length)) (br (ixI l i) (br (ixS l i (Sh.int .i64) 0) (br ((gC l i 0).toInt != a) (br (ixI l i) (br (ixS l i (Sh.int .i64) 0) (br ((gC l i 0).toInt != 0) (κr (true,(false),())) (κl (i64.wrap (i+1)))) δ) δ) (κl (i64.wrap (i+1)))) δ) δ) (κr (false,false,()))
def xcj (l:LA) (a:Int):StT (Int) (Bool×(Bool)×(Unit)):=fun (i)=>xi0 l a i none inL inR
def xpe:=xBA.l 25 0 [] [] Tryz.f175 0 lk0 [0,1,5] [4] [] (q3 (qL 1) qI qI) xJw (fun (l,a,i,_) _=>(xcj l a,(i),fun p=>(.node p.1 (.leaf .ret [AV.bool p.2.1] []) (.leaf (.exit 0) [.top] [])))) (false,false,()) fun (l,a,_,_) _ (i)=>(((l,a,i,()),()),xi0 l a i none)
def xpG {T:Type} (l:LA) (a:Int) (δ:T) (κ:Bool->T):T:=br ((Iter (xcj l a) 0).isSome) (br (((Iter (xcj l a) 0).getD (false,false,())).fst) (κ (((Iter (xcj l a) 0).getD (false,false,())).snd.fst)) (κ (true))) δ
def xcn (l:LA) (a:Int):=xpG l a none some
def xBB:EO:=xBA.f Tryz.func175 25 0 [] [(2,xpe.lp)] (lk1 xpe.ok) (u2 (uL 1) uI) (fun (l,a,_) _=>xpG l a) (fun _ p=>AV.bool p) false
def xg0 (l:LA) (i:Int):=ixI l i
def xg1 (l:LA) (i:Int):=decide (i.toNat<l.length)&&xIL (Sh.int .i64) (gC l i 0)
def xgh {T:Type} (l:LA) (i:Int) (δ:T) (κl:(Int×Int)->T):T:=br (xg0 l i) (br (xg1 l i) (κl ((gC l i 0).toInt,i64.wrap (i+1))) δ) δ
def xh4 {T:Type} (l:LA) (k i:Int) (δ:T) (κl:(Int×Int)->T) (κr:(Bool×(Int×Bool×Int)×(Int))->T):T:=br (decide (i<l.length)) (br (xg0 l i) (br (xg1 l i) (br ((gC l i 0).toInt==0) (κl (k,i64.wrap (i+1))) (br (k != 0) (br (xg0 l i) (br (xg1 l i) (br (k != (gC l i 0).toInt) (κr (true,(0,false,k),0)) (xgh l i δ κl)) δ) δ) (xgh l i δ κl))) δ) δ) (κr (false,(0,false,0),(k)))
def xcL (l:LA):StT (Int×Int) (Bool×(Int×Bool×Int)×(Int)):=fun (k,i)=>xh4 l k i none inL inR
def xoo:=xBB.l 32 0 [] [] Tryz.f176 0 lk0 [0,4,5] [2,3,4] [] (q3 (qL 1) qI qI) xJw (fun (l,k,i,_) _=>(xcL l,(k,i),fun p=>(.node p.1 (.leaf .ret [AV.int .i64 p.2.1.1,AV.bool p.2.1.2.1,AV.int .i64 p.2.1.2.2] []) (.leaf (.exit 0) [.top,.top,AV.int .i64 p.2.2] [])))) (false,(0,false,0),0) fun (l,_,_,_) _ (k,i)=>(((l,k,i,()),()),xh4 l k i none)
def xnb (l:LA):=(Iter (xcL l) (0,0)).getD (false,(0,false,0),0)
def xna (l:LA):=(xnb l).snd
def xm9 (l:LA):=(xna l).fst
def xoq {T:Type} (l:LA) (δ:T) (κ:Int×Bool->T):T:=br ((Iter (xcL l) (0,0)).isSome) (br ((xnb l).fst) (κ ((xm9 l).fst,(xm9 l).snd.fst)) (κ ((xna l).snd,true))) δ
def xc7 (l:LA):=xoq l none some
def xFM:EO:=xBB.f Tryz.func176 32 0 [] [(3,xoo.lp)] (lk1 xoo.ok) (u1 (uL 1)) (fun (l,_) _=>xoq l) (fun _ p=>AV.tuple [AV.int .i64 p.1,AV.bool p.2]) (0,false)
def xcC {T:Type} (l:LA) (δ:T) (κ:Int×Bool->T):T:=br ((xc7 l).isSome) (κ (3,((xc7 l).getD (0,false)).snd)) δ
def xcD {T:Type} (l:LA) (δ:T) (κ:Int×Bool->T):T:=br ((xcn l 1).isSome) (κ (1,(xcn l 1).getD false)) δ
def xg2 {T:Type} (l:LA) (δ:T) (κ:Int×Bool->T):T:=br ((xcn l 3).isSome) (κ (3,(xcn l 3).getD false)) δ
def xl7 {T:Type} (a c d f:Int) (g h:List UInt8) (e l b:LA) (δ:T) (κ:Int×Bool->T):T:=br (a==1) (κ (d,true)) (br (a==2) (br (ixI b c) (br (ixS b c (Sh.int .i64) 0) (κ ((gC b c 0).toInt,true)) δ) δ) (br (a==4) (xg2 l δ κ) (br (a==5) (xg2 l δ κ) (br (a==6) (xg2 l δ κ) (br (a==7) (xcC l δ κ) (br (a==8) (xcC l δ κ) (br (a==9) (xcC l δ κ) (br (a==10) (xcC l δ κ) (br (a==11) (xcC l δ κ) (br (a==12) (xcC l δ κ) (br (a==13) (xcD l δ κ) (br (a==14) (xcD l δ κ) (br (a==15) (xcD l δ κ) (br (a==16) (xcD l δ κ) (br (a==17) (xcD l δ κ) (br (a==18) (xcD l δ κ) (br (a==19) (br ((xcn l 2).isSome) (κ (2,(xcn l 2).getD false)) δ) (br (a==20) (br ((xcn l 2).isSome) (κ (1,(xcn l 2).getD false)) δ) (br (a==21) (κ (3,true)) (br (a==22) (br (decide (1<=(↑l.length:Int))) (br ((xc7 (List.take (l.length - 1) (List.drop 1 l))).isSome) (br (((xc7 (List.take (l.length - 1) (List.drop 1 l))).getD (0,false)).snd) (br (decide (1<=(↑l.length:Int))&&true) (br ((xcn (List.take 1 (List.drop 0 l)) 3).isSome) (κ (((xc7 (List.take (l.length - 1) (List.drop 1 l))).getD (0,false)).fst,(xcn (List.take 1 (List.drop 0 l)) 3).getD false)) δ) δ) (κ (((xc7 (List.take (l.length - 1) (List.drop 1 l))).getD (0,false)).fst,false))) δ) δ) (br (a==23) (br ((xc7 l).isSome) (κ (((xc7 l).getD (0,false)).fst,((xc7 l).getD (0,false)).snd)) δ) (br ((xcn l 1).isSome) (κ (3,(xcn l 1).getD false)) δ))))))))))))))))))))))
def xgq (c h d e:Int) (f g:List UInt8) (a l b:LA):=xl7 c h d e f g a l b none some
def xpx:EO:=xFM.f Tryz.func151 87 0 [7000000] [] lk0 (u3 (xJM (u7 uI uI uI uI (sEq pStr) (sEq pStr) (uL 7))) (uL 1) (uL 1)) (fun ((c,i,d,e,g,h,a,_),l,b,_) _=>xl7 c i d e g h a l b) (fun _ p=>AV.tuple [AV.int .i64 p.1,AV.bool p.2]) (0,false)
def xdv (R:Int->Int->Int->Int->List UInt8->List UInt8->LA->Option (Int)):LA->Option (Bool×AV):=ocOf (xJv (xJM (xJv (sEq (pInt .i64)) (xJv (sEq (pInt .i64)) (xJv (sEq (pInt .i64)) (xJv (sEq (pInt .i64)) (xJv (sEq pStr) (xJv (sEq pStr) (xJv (xJL 7 xJz) xJy)))))))) xJy) fun ((b,(i,(c,(d,(e,(f,(a,_))))))),_)=>((R b i c d e f a).isSome,AV.int .i64 ((R b i c d e f a).getD 0))
theorem xrd (k:Go.FuncId) (R:Nat->Int->Int->Int->Int->List UInt8->List UInt8->LA->Option (Int)) (g:∀ n,OcOk P0 xJt k (xdv (R n))):OcOk P0 xJt k (xdv (fun b i c d e f a=>limN fun n=>R n b i c d e f a)):=xyr g fun v h=>by
 obtain ⟨⟨b,⟨i,⟨c,⟨d,⟨e,⟨f,⟨a,_⟩⟩⟩⟩⟩⟩⟩,_⟩:=v;obtain ⟨n,j⟩:=xvo (R:=fun n=>R n b i c d e f a) h
 exact ⟨n,congrArg (fun o=>(Option.isSome o,(AV.int .i64 (Option.getD o 0):AV))) j⟩
def xdb (R:Int->Int->Int->Int->List UInt8->List UInt8->LA->Option (Int)):Prop:=OcOk P0 xJt 126 (xdv R)
def xe3 (R:Int->Int->Int->Int->List UInt8->List UInt8->LA->Option (Int)):Env:=(xpx.E.with 126 (xdv R)).fn 22 0 (lsOf []) (xI8 [])
abbrev xjr (R:Int->Int->Int->Int->List UInt8->List UInt8->LA->Option (Int)):Prop:=xdb R
theorem xsd (R:Int->Int->Int->Int->List UInt8->List UInt8->LA->Option (Int)) (a:xjr R):xIN P0 (xJt.at 0) (xe3 R):=(xpx.ok.with a).fn
theorem xpI (R:Int->Int->Int->Int->List UInt8->List UInt8->LA->Option (Int)) (a:xjr R):LoOk P0 (xJt.at (xe3 R).pin) (xe3 R) (xIR Tryz.f126 0):=xit (by kernel_rfl)
def xju (R:Int->Int->Int->Int->List UInt8->List UInt8->LA->Option Int) (i:Int) (a:LA):=R (gC a i 0).toInt (gC a i 1).toInt (gC a i 2).toInt (gC a i 3).toInt (gC a i 4).toStr (gC a i 5).toStr (gC a i 6).toList
def xjt (R:Int->Int->Int->Int->List UInt8->List UInt8->LA->Option Int) (i:Int) (a:LA):=(xju R i a).getD 0
def xfa {T:Type} (R:Int->Int->Int->Int->List UInt8->List UInt8->LA->Option Int) (n i b c d e:Int) (f g:List UInt8) (a:LA) (δ:T) (κl:(Int×Int×Int×Int×Int×Int×List UInt8×List UInt8×LA)->T) (κr:(Int)->T):T:=br (decide (i<a.length)) (br (ixI a i) (br (ixT a i 7 [Sh.int .i64,Sh.int .i64,Sh.int .i64,Sh.int .i64,Sh.str,Sh.str,Sh.list 7] 0) (br ((xju R i a).isSome) (κl (if xjt R i a>n then xjt R i a else n,i64.wrap (i+1),b,c,d,e,f,g,a)) δ) δ) δ) (κr (n))
def xbr (R:Int->Int->Int->Int->List UInt8->List UInt8->LA->Option Int):StT (Int×Int×Int×Int×Int×Int×List UInt8×List UInt8×LA) (Int):=fun (n,i,a,b,c,d,e,f,g)=>xfa R n i a b c d e f g none inL inR
def xbY (R:Int->Int->Int->Int->List UInt8->List UInt8->LA->Option Int):(Int×Int×Int×Int×Int×Int×List UInt8×List UInt8×LA)->LA×List Box:=fun (n,i,a,b,c,d,e,f,g)=>([AV.own 0 0 0 0,AV.int .i64 n,AV.int .i64 i],[⟨0,7,153,[AV.agg [AV.int .i64 a,AV.int .i64 b,AV.int .i64 c,AV.int .i64 d,AV.str e,AV.str f,AV.list 7 g]],false,true⟩])
def xcN (R:Int->Int->Int->Int->List UInt8->List UInt8->LA->Option Int):(Int)->LR:=fun p=>(.leaf (.exit 0) [AV.int .i64 p] [])
abbrev xou (R:Int->Int->Int->Int->List UInt8->List UInt8->LA->Option Int) (a:LA) (H:List Box):=XR P0 (xe3 R) [1,3,4] [3] [] (xIR Tryz.f126 0) a H
theorem xtg (R:Int->Int->Int->Int->List UInt8->List UInt8->LA->Option Int) (s:Int×Int×Int×Int×Int×Int×List UInt8×List UInt8×LA):Enc (encR (xbY R) (xcN R)) (xbr R s) (xou R (xbY R s).1 (xbY R s).2):=by
 obtain ⟨n,i,a,b,c,d,e,f,g⟩:=s;have h:xou R (xbY R (n,i,a,b,c,d,e,f,g)).1 (xbY R (n,i,a,b,c,d,e,f,g)).2=xfa R n i a b c d e f g none (fun s=>some (encR (xbY R) (xcN R) (.inl s))) (fun p=>some (encR (xbY R) (xcN R) (.inr p))):=by kernel_rfl
 rw [h];unfold xbr xfa;repeat' (first|refine Enc.br ?_ ?_|exact Enc.none|exact Enc.some rfl)
def xjs (R:Int->Int->Int->Int->List UInt8->List UInt8->LA->Option Int):Lp:=lpOf [1,3,4] [3] [] (xJu (xJI 0 0 0 0) (xJu (pInt .i64) (xJu (pInt .i64) xJw))) (xJu (xJK 0 7 153 false true (xJu (xJJ (xJu (pInt .i64) (xJu (pInt .i64) (xJu (pInt .i64) (xJu (pInt .i64) (xJu pStr (xJu pStr (xJu (xJN 7 xJz) xJw)))))))) xJw)) xJw) fun (_,(n,(i,_))) (((a,(b,(c,(d,(e,(f,(g,_))))))),_),_)=>((Iter (xbr R) (n,i,a,b,c,d,e,f,g)).isSome,xcN R ((Iter (xbr R) (n,i,a,b,c,d,e,f,g)).getD 0))
theorem xrJ (R:Int->Int->Int->Int->List UInt8->List UInt8->LA->Option Int) (a:xjr R):LoopOk P0 (xJt.at (xe3 R).pin) (xe3 R).nt (xIR Tryz.f126 0) (xjs R):=xyj fun k l o m=>by
 obtain ⟨_,⟨n,⟨i,_⟩⟩⟩:=k;obtain ⟨⟨⟨b,⟨c,⟨d,⟨e,⟨f,⟨g,⟨h,_⟩⟩⟩⟩⟩⟩⟩,_⟩,_⟩:=l;obtain ⟨j,rfl⟩:=Prod.mk.inj m;exact xqs xIW (xIX P0 _) rfl (xsd R a) (xpI R a) (xbY R) (xcN R) (fun p=>by simp only [xcN,LR.eval];first|(simp;done)|(repeat' split<;>simp)) (xtg R) (s:=(n,i,b,c,d,e,f,g,h)) (xbt j)
def xdu (R:Int->Int->Int->Int->List UInt8->List UInt8->LA->Option (Int)):Env:=(xpx.E.with 126 (xdv R)).fn 22 0 (lsOf []) (xI8 [(3,xjs R)])
theorem xse (R:Int->Int->Int->Int->List UInt8->List UInt8->LA->Option (Int)) (a:xdb R):xIN P0 (xJt.at 0) (xdu R):=(xpx.ok.with a).fn
theorem xqD (R:Int->Int->Int->Int->List UInt8->List UInt8->LA->Option (Int)) (c:xdb R):LoOk P0 (xJt.at (xdu R).pin) (xdu R) (Tryz.f126.body.getD .skip):=xn9 (ls:=[xIR Tryz.f126 0]) (by kernel_rfl) (fun l b lp a=>by
 simp only [zB,List.not_mem_nil,or_false] at b;rcases b with rfl
 . rw [show (xdu R).lp (xI0 (xIR Tryz.f126 0))=some (xjs R) by kernel_rfl] at a
   simp only [z1] at a;subst a;exact xrJ R c)
def xl6 (R:Int->Int->Int->Int->List UInt8->List UInt8->LA->Option Int) (b i c d:Int) (e f:List UInt8) (a:LA):=Iter (xbr R) (0,0,b,i,c,d,e,f,a)
def xjQ {T:Type} (R:Int->Int->Int->Int->List UInt8->List UInt8->LA->Option Int) (b i c d:Int) (e f:List UInt8) (a:LA) (δ:T) (κ:Int->T):T:=br ((xl6 R b i c d e f a).isSome) (κ (i64.wrap ((xl6 R b i c d e f a).getD 0+1))) δ
def xf8 (R:Int->Int->Int->Int->List UInt8->List UInt8->LA->Option Int) (b i c d:Int) (e f:List UInt8) (a:LA):=xjQ R b i c d e f a none some
theorem xwj (R:Int->Int->Int->Int->List UInt8->List UInt8->LA->Option Int) (b i c d:Int) (e f:List UInt8) (a:LA):Enc (fun (p:Int)=>((AV.int .i64 p):AV)) (xf8 R b i c d e f a) (XF P0 (xdu R) Tryz.f126 (Tryz.f126.body.getD .skip) [AV.agg [AV.int .i64 b,AV.int .i64 i,AV.int .i64 c,AV.int .i64 d,AV.str e,AV.str f,AV.list 7 a]]):=by
 have h:XF P0 (xdu R) Tryz.f126 (Tryz.f126.body.getD .skip) [AV.agg [AV.int .i64 b,AV.int .i64 i,AV.int .i64 c,AV.int .i64 d,AV.str e,AV.str f,AV.list 7 a]]=xjQ R b i c d e f a none (fun (p:Int)=>some ((AV.int .i64 p):AV)):=by kernel_rfl
 rw [h];unfold xf8 xjQ;repeat' (first|refine Enc.br ?_ ?_|exact Enc.none|exact Enc.some rfl)
def xwi (R:Int->Int->Int->Int->List UInt8->List UInt8->LA->Option Int):LA->Option (Bool×AV):=ocOf (xJv (xJM (xJv (sEq (pInt .i64)) (xJv (sEq (pInt .i64)) (xJv (sEq (pInt .i64)) (xJv (sEq (pInt .i64)) (xJv (sEq pStr) (xJv (sEq pStr) (xJv (xJL 7 xJz) xJy)))))))) xJy) fun ((b,(i,(c,(d,(e,(f,(a,_))))))),_)=>((xf8 R b i c d e f a).isSome,(AV.int .i64 ((xf8 R b i c d e f a).getD 0)))
theorem xwh (R:Int->Int->Int->Int->List UInt8->List UInt8->LA->Option Int) (a:xdb R):OcOk P0 xJt 126 (xwi R):=xiX fun e h f=>by
 obtain ⟨⟨j,⟨i,⟨k,⟨l,⟨m,⟨n,⟨g,_⟩⟩⟩⟩⟩⟩⟩,_⟩:=e;obtain ⟨b,c⟩:=Prod.mk.inj f;refine xj6 (p:=(xdu R).pin) (xlU xIW (xIX P0 _) rfl (xse R a) Tryz.func126 rfl (by kernel_rfl) (xqD R a) ((xwj R _ _ _ _ _ _ _ _ (xbt (d:=0) b)).trans ?_))
 exact congrArg some c
def xcB:Nat->Int->Int->Int->Int->List UInt8->List UInt8->LA->Option (Int)
 | 0=>fun _ _ _ _ _ _ _=>none
 | fu_+1=>fun b i c d e f a=>xf8 (xcB fu_) b i c d e f a
theorem xot:∀ n,xdb (xcB n)
 | 0=>xiX fun _ _ h=>absurd (Prod.mk.inj h).1 Bool.false_ne_true
 | fu_+1=>fun a r h=>xwh (xcB fu_) (xot fu_) a r h
def xhA:Int->Int->Int->Int->List UInt8->List UInt8->LA->Option (Int):=fun b i c d e f a=>limN fun n=>xcB n b i c d e f a
theorem xtf:xdb xhA:=xrd 126 xcB xot
def xto:Env:=xpx.E.with 126 (xdv xhA)
theorem xrg:xIN P0 xJt xto:=xpx.ok.with xtf
def xdt (R:Int->Int->Int->Int->List UInt8->List UInt8->LA->LA->Option (Int×Int)):LA->Option (Bool×AV):=ocOf (xJv (xJM (xJv (sEq (pInt .i64)) (xJv (sEq (pInt .i64)) (xJv (sEq (pInt .i64)) (xJv (sEq (pInt .i64)) (xJv (sEq pStr) (xJv (sEq pStr) (xJv (xJL 7 xJz) xJy)))))))) (xJv (xJL 1 xJz) xJy)) fun ((b,(i,(c,(d,(e,(f,(a,_))))))),(g,_))=>((R b i c d e f a g).isSome,AV.tuple [AV.int .i64 (((R b i c d e f a g).getD (0,0))).1,AV.int .i64 (((R b i c d e f a g).getD (0,0))).2])
theorem xrc (k:Go.FuncId) (R:Nat->Int->Int->Int->Int->List UInt8->List UInt8->LA->LA->Option (Int×Int)) (j:∀ n,OcOk P0 xJt k (xdt (R n))):OcOk P0 xJt k (xdt (fun b i c d e f a g=>limN fun n=>R n b i c d e f a g)):=xyr j fun v h=>by
 obtain ⟨⟨b,⟨i,⟨c,⟨d,⟨e,⟨f,⟨a,_⟩⟩⟩⟩⟩⟩⟩,⟨g,_⟩⟩:=v;obtain ⟨n,l⟩:=xvo (R:=fun n=>R n b i c d e f a g) h
 exact ⟨n,congrArg (fun o=>(Option.isSome o,(AV.tuple [AV.int .i64 ((Option.getD o (0,0))).1,AV.int .i64 ((Option.getD o (0,0))).2]:AV))) l⟩
def xda (R:Int->Int->Int->Int->List UInt8->List UInt8->LA->LA->Option (Int×Int)):Prop:=OcOk P0 xJt 127 (xdt R)
def xe2 (R:Int->Int->Int->Int->List UInt8->List UInt8->LA->LA->Option (Int×Int)):Env:=(xto.with 127 (xdt R)).fn 75 0 (lsOf []) (xI8 [])
abbrev xjm (R:Int->Int->Int->Int->List UInt8->List UInt8->LA->LA->Option (Int×Int)):Prop:=xda R
theorem xsb (R:Int->Int->Int->Int->List UInt8->List UInt8->LA->LA->Option (Int×Int)) (a:xjm R):xIN P0 (xJt.at 0) (xe2 R):=(xrg.with a).fn
theorem xpH (R:Int->Int->Int->Int->List UInt8->List UInt8->LA->LA->Option (Int×Int)) (a:xjm R):LoOk P0 (xJt.at (xe2 R).pin) (xe2 R) (xIR Tryz.f127 0):=xit (by kernel_rfl)
def xjq (R:Int->Int->Int->Int->List UInt8->List UInt8->LA->LA->Option (Int×Int)) (b:LA) (i:Int) (a:LA):Option (Int×Int):=R (gC a i 0).toInt (gC a i 1).toInt (gC a i 2).toInt (gC a i 3).toInt (gC a i 4).toStr (gC a i 5).toStr (gC a i 6).toList b
def xjp (R:Int->Int->Int->Int->List UInt8->List UInt8->LA->LA->Option (Int×Int)) (a:LA) (i:Int) (b:LA):Int×Int:=(xjq R a i b).getD (0,0)
def xjo (R:Int->Int->Int->Int->List UInt8->List UInt8->LA->LA->Option (Int×Int)) (a:LA) (i:Int) (b:LA):Int:=(xjp R a i b).snd
def xe9 {T:Type} (R:Int->Int->Int->Int->List UInt8->List UInt8->LA->LA->Option (Int×Int)) (b:LA) (d:Nat) (i e f g h:Int) (j k:List UInt8) (a c:LA) (δ:T) (κl:(Nat×Int×Int×Int×Int×Int×List UInt8×List UInt8×LA×LA)->T) (κr:(Bool×(Int×Int×Nat×Int×Int×Int×Int×List UInt8×List UInt8×LA×LA)×(Nat×Int×Int×Int×Int×List UInt8×List UInt8×LA×LA))->T):T:=br (decide (i<a.length)) (br (ixI a i) (br (ixT a i 7 [Sh.int .i64,Sh.int .i64,Sh.int .i64,Sh.int .i64,Sh.str,Sh.str,Sh.list 7] 0) (br ((xjq R b i a).isSome) (br (xjo R b i a != 0) (κr (true,(0,xjo R b i a,d,e,f,g,h,j,k,a,c),(0,0,0,0,0,[],[],[],[]))) (br (rmB d c 1 8) (κl (d+1,i64.wrap (i+1),e,f,g,h,j,k,a,c++[AV.int .i64 (xjp R b i a).fst])) δ)) δ) δ) δ) (κr (false,(0,0,0,0,0,0,0,[],[],[],[]),(d,e,f,g,h,j,k,a,c)))
def xbq (R:Int->Int->Int->Int->List UInt8->List UInt8->LA->LA->Option (Int×Int)) (a:LA):StT (Nat×Int×Int×Int×Int×Int×List UInt8×List UInt8×LA×LA) (Bool×(Int×Int×Nat×Int×Int×Int×Int×List UInt8×List UInt8×LA×LA)×(Nat×Int×Int×Int×Int×List UInt8×List UInt8×LA×LA)):=fun (c,i,d,e,f,g,h,j,k,b)=>xe9 R a c i d e f g h j k b none inL inR
def xbX (R:Int->Int->Int->Int->List UInt8->List UInt8->LA->LA->Option (Int×Int)) (a:LA):(Nat×Int×Int×Int×Int×Int×List UInt8×List UInt8×LA×LA)->LA×List Box:=fun (c,i,d,e,f,g,h,j,k,b)=>([AV.list 1 a,AV.own 0 0 0 0,AV.osl 1 0 0 c,AV.int .i64 i],[⟨0,7,153,[AV.agg [AV.int .i64 d,AV.int .i64 e,AV.int .i64 f,AV.int .i64 g,AV.str h,AV.str j,AV.list 7 k]],false,true⟩,⟨0,1,3,b,false,true⟩])
def xcM (R:Int->Int->Int->Int->List UInt8->List UInt8->LA->LA->Option (Int×Int)) (a:LA):(Bool×(Int×Int×Nat×Int×Int×Int×Int×List UInt8×List UInt8×LA×LA)×(Nat×Int×Int×Int×Int×List UInt8×List UInt8×LA×LA))->LR:=fun p=>(.node p.1 (.leaf .ret [AV.list 1 a,AV.own 0 0 0 0,AV.int .i64 p.2.1.1,AV.int .i64 p.2.1.2.1,AV.osl 1 0 0 p.2.1.2.2.1] [⟨0,7,153,[AV.agg [AV.int .i64 p.2.1.2.2.2.1,AV.int .i64 p.2.1.2.2.2.2.1,AV.int .i64 p.2.1.2.2.2.2.2.1,AV.int .i64 p.2.1.2.2.2.2.2.2.1,AV.str p.2.1.2.2.2.2.2.2.2.1,AV.str p.2.1.2.2.2.2.2.2.2.2.1,AV.list 7 p.2.1.2.2.2.2.2.2.2.2.2.1]],false,true⟩,⟨0,1,3,p.2.1.2.2.2.2.2.2.2.2.2.2,false,true⟩]) (.leaf (.exit 0) [AV.list 1 a,AV.own 0 0 0 0,.top,.top,AV.osl 1 0 0 p.2.2.1] [⟨0,7,153,[AV.agg [AV.int .i64 p.2.2.2.1,AV.int .i64 p.2.2.2.2.1,AV.int .i64 p.2.2.2.2.2.1,AV.int .i64 p.2.2.2.2.2.2.1,AV.str p.2.2.2.2.2.2.2.1,AV.str p.2.2.2.2.2.2.2.2.1,AV.list 7 p.2.2.2.2.2.2.2.2.2.1]],false,true⟩,⟨0,1,3,p.2.2.2.2.2.2.2.2.2.2,false,true⟩]))
abbrev xos (R:Int->Int->Int->Int->List UInt8->List UInt8->LA->LA->Option (Int×Int)) (a:LA) (H:List Box):=XR P0 (xe2 R) [1,2,8,9] [1,2,4,5,8] [(8,1,3)] (xIR Tryz.f127 0) a H
theorem xte (R:Int->Int->Int->Int->List UInt8->List UInt8->LA->LA->Option (Int×Int)) (a:LA) (s:Nat×Int×Int×Int×Int×Int×List UInt8×List UInt8×LA×LA):Enc (encR (xbX R a) (xcM R a)) (xbq R a s) (xos R (xbX R a s).1 (xbX R a s).2):=by
 obtain ⟨c,i,d,e,f,g,j,k,l,b⟩:=s;have h:xos R (xbX R a (c,i,d,e,f,g,j,k,l,b)).1 (xbX R a (c,i,d,e,f,g,j,k,l,b)).2=xe9 R a c i d e f g j k l b none (fun s=>some (encR (xbX R a) (xcM R a) (.inl s))) (fun p=>some (encR (xbX R a) (xcM R a) (.inr p))):=by kernel_rfl
 rw [h];unfold xbq xe9;repeat' (first|refine Enc.br ?_ ?_|exact Enc.none|exact Enc.some rfl)
def xjn (R:Int->Int->Int->Int->List UInt8->List UInt8->LA->LA->Option (Int×Int)):Lp:=lpOf [1,2,8,9] [1,2,4,5,8] [(8,1,3)] (xJu (xJN 1 xJz) (xJu (xJI 0 0 0 0) (xJu (xJH 1 0 0) (xJu (pInt .i64) xJw)))) (xJu (xJK 0 7 153 false true (xJu (xJJ (xJu (pInt .i64) (xJu (pInt .i64) (xJu (pInt .i64) (xJu (pInt .i64) (xJu pStr (xJu pStr (xJu (xJN 7 xJz) xJw)))))))) xJw)) (xJu (xJK 0 1 3 false true xJz) xJw)) fun (a,(_,(c,(i,_)))) (((d,(e,(f,(g,(h,(j,(k,_))))))),_),(b,_))=>((Iter (xbq R a) (c,i,d,e,f,g,h,j,k,b)).isSome,xcM R a ((Iter (xbq R a) (c,i,d,e,f,g,h,j,k,b)).getD (false,(0,0,0,0,0,0,0,[],[],[],[]),(0,0,0,0,0,[],[],[],[]))))
theorem xrI (R:Int->Int->Int->Int->List UInt8->List UInt8->LA->LA->Option (Int×Int)) (c:xjm R):LoopOk P0 (xJt.at (xe2 R).pin) (xe2 R).nt (xIR Tryz.f127 0) (xjn R):=xyj fun n o r q=>by
 obtain ⟨a,⟨_,⟨d,⟨i,_⟩⟩⟩⟩:=n;obtain ⟨⟨⟨e,⟨f,⟨g,⟨h,⟨j,⟨k,⟨l,_⟩⟩⟩⟩⟩⟩⟩,_⟩,⟨b,_⟩⟩:=o;obtain ⟨m,rfl⟩:=Prod.mk.inj q;exact xqs xIW (xIX P0 _) rfl (xsb R c) (xpH R c) (xbX R a) (xcM R a) (fun p=>by simp only [xcM,LR.eval];first|(simp;done)|(repeat' split<;>simp)) (xte R a) (s:=(d,i,e,f,g,h,j,k,l,b)) (xbt m)
def xds (R:Int->Int->Int->Int->List UInt8->List UInt8->LA->LA->Option (Int×Int)):Env:=(xto.with 127 (xdt R)).fn 75 0 (lsOf []) (xI8 [(10,xjn R)])
theorem xsc (R:Int->Int->Int->Int->List UInt8->List UInt8->LA->LA->Option (Int×Int)) (a:xda R):xIN P0 (xJt.at 0) (xds R):=(xrg.with a).fn
theorem xqC (R:Int->Int->Int->Int->List UInt8->List UInt8->LA->LA->Option (Int×Int)) (c:xda R):LoOk P0 (xJt.at (xds R).pin) (xds R) (Tryz.f127.body.getD .skip):=xn9 (ls:=[xIR Tryz.f127 0]) (by kernel_rfl) (fun l b lp a=>by
 simp only [zB,List.not_mem_nil,or_false] at b;rcases b with rfl
 . rw [show (xds R).lp (xI0 (xIR Tryz.f127 0))=some (xjn R) by kernel_rfl] at a
   simp only [z1] at a;subst a;exact xrI R c)
def xlf (R:Int->Int->Int->Int->List UInt8->List UInt8->LA->LA->Option (Int×Int)) (b i c d:Int) (e f:List UInt8) (a g:LA):Option
 (Bool ×
  (Int×Int×Nat×Int×Int×Int×Int×List UInt8×List UInt8×LA×LA) ×
   Nat×Int×Int×Int×Int×List UInt8×List UInt8×LA×LA):=Iter (xbq R g) (0,0,b,i,c,d,e,f,a,[])
def xle (R:Int->Int->Int->Int->List UInt8->List UInt8->LA->LA->Option (Int×Int)) (b i c d:Int) (e f:List UInt8) (a g:LA):Bool ×
 (Int×Int×Nat×Int×Int×Int×Int×List UInt8×List UInt8×LA×LA) ×
  Nat×Int×Int×Int×Int×List UInt8×List UInt8×LA×LA:=(xlf R b i c d e f a g).getD (false,(0,0,0,0,0,0,0,[],[],[],[]),0,0,0,0,0,[],[],[],[])
def xld (R:Int->Int->Int->Int->List UInt8->List UInt8->LA->LA->Option (Int×Int)) (b i c d:Int) (e f:List UInt8) (a g:LA):(Int×Int×Nat×Int×Int×Int×Int×List UInt8×List UInt8×LA×LA) ×
 Nat×Int×Int×Int×Int×List UInt8×List UInt8×LA×LA:=(xle R b i c d e f a g).snd
def xlb (R:Int->Int->Int->Int->List UInt8->List UInt8->LA->LA->Option (Int×Int)) (b i c d:Int) (e f:List UInt8) (a g:LA):Int×Int×Nat×Int×Int×Int×Int×List UInt8×List UInt8×LA×LA:=(xld R b i c d e f a g).fst
def xlc (R:Int->Int->Int->Int->List UInt8->List UInt8->LA->LA->Option (Int×Int)) (b i c d:Int) (e f:List UInt8) (a g:LA):Nat×Int×Int×Int×Int×List UInt8×List UInt8×LA×LA:=(xld R b i c d e f a g).snd
def xl5 (R:Int->Int->Int->Int->List UInt8->List UInt8->LA->LA->Option (Int×Int)) (b i c d:Int) (e f:List UInt8) (a g:LA):Int×Int×Int×Int×List UInt8×List UInt8×LA×LA:=(xlc R b i c d e f a g).snd
def xla (R:Int->Int->Int->Int->List UInt8->List UInt8->LA->LA->Option (Int×Int)) (b i c d:Int) (e f:List UInt8) (a g:LA):Nat:=(xlc R b i c d e f a g).fst
def xl4 (R:Int->Int->Int->Int->List UInt8->List UInt8->LA->LA->Option (Int×Int)) (b i c d:Int) (e f:List UInt8) (a g:LA):Int×Int×Int×List UInt8×List UInt8×LA×LA:=(xl5 R b i c d e f a g).snd
def xl3 (R:Int->Int->Int->Int->List UInt8->List UInt8->LA->LA->Option (Int×Int)) (b i c d:Int) (e f:List UInt8) (a g:LA):Int×Int×List UInt8×List UInt8×LA×LA:=(xl4 R b i c d e f a g).snd
def xl2 (R:Int->Int->Int->Int->List UInt8->List UInt8->LA->LA->Option (Int×Int)) (b i c d:Int) (e f:List UInt8) (a g:LA):Int×List UInt8×List UInt8×LA×LA:=(xl3 R b i c d e f a g).snd
def xl1 (R:Int->Int->Int->Int->List UInt8->List UInt8->LA->LA->Option (Int×Int)) (b i c d:Int) (e f:List UInt8) (a g:LA):List UInt8×List UInt8×LA×LA:=(xl2 R b i c d e f a g).snd
def xl0 (R:Int->Int->Int->Int->List UInt8->List UInt8->LA->LA->Option (Int×Int)) (b i c d:Int) (e f:List UInt8) (a g:LA):List UInt8×LA×LA:=(xl1 R b i c d e f a g).snd
def xlx (R:Int->Int->Int->Int->List UInt8->List UInt8->LA->LA->Option (Int×Int)) (b i c d:Int) (e f:List UInt8) (a g:LA):LA×LA:=(xl0 R b i c d e f a g).snd
def xlZ (R:Int->Int->Int->Int->List UInt8->List UInt8->LA->LA->Option (Int×Int)) (b i c d:Int) (e f:List UInt8) (a g:LA):LA:=(xlx R b i c d e f a g).snd
def xlY (R:Int->Int->Int->Int->List UInt8->List UInt8->LA->LA->Option (Int×Int)) (c i d e:Int) (f g:List UInt8) (a b:LA):Option (Int×Bool):=xgq (xl5 R c i d e f g a b).fst (xl4 R c i d e f g a b).fst (xl3 R c i d e f g a b).fst (xl2 R c i d e f g a b).fst (xl1 R c i d e f g a b).fst (xl0 R c i d e f g a b).fst (xlx R c i d e f g a b).fst (List.take (xla R c i d e f g a b) (List.drop 0 (xlZ R c i d e f g a b))) b
def xlX (R:Int->Int->Int->Int->List UInt8->List UInt8->LA->LA->Option (Int×Int)) (b i c d:Int) (e f:List UInt8) (a g:LA):Int×Bool:=(xlY R b i c d e f a g).getD (0,false)
def xh5 {T:Type} (R:Int->Int->Int->Int->List UInt8->List UInt8->LA->LA->Option (Int×Int)) (b i c d:Int) (e f:List UInt8) (a g:LA) (δ:T) (κ:Int×Int->T):T:=br ((xlf R b i c d e f a g).isSome) (br ((xle R b i c d e f a g).fst) (κ ((xlb R b i c d e f a g).fst,(xlb R b i c d e f a g).snd.fst)) (br (decide (0+xla R b i c d e f a g<=(xlZ R b i c d e f a g).length)&&true) (br ((xlY R b i c d e f a g).isSome) (br (!(xlX R b i c d e f a g).snd) (κ (0,7)) (κ ((xlX R b i c d e f a g).fst,0))) δ) δ)) δ
def xjP {T:Type} (R:Int->Int->Int->Int->List UInt8->List UInt8->LA->LA->Option (Int×Int)) (b i c d:Int) (e f:List UInt8) (a g:LA) (δ:T) (κ:Int×Int->T):T:=br (decide ((xhH b).fst<0)) (κ (0,7)) (br ((xk9 b i c d e f a).isSome) (br (!(xk9 b i c d e f a).getD false) (κ (0,8)) (br (b==2) (br (decide (i<0)) (κ (0,13)) (br (decide (i>=g.length)) (κ (0,13)) (xh5 R b i c d e f a g δ κ))) (xh5 R b i c d e f a g δ κ))) δ)
def xeX (R:Int->Int->Int->Int->List UInt8->List UInt8->LA->LA->Option (Int×Int)) (b i c d:Int) (e f:List UInt8) (a g:LA):=xjP R b i c d e f a g none some
theorem xwg (R:Int->Int->Int->Int->List UInt8->List UInt8->LA->LA->Option (Int×Int)) (b i c d:Int) (e f:List UInt8) (a g:LA):Enc (fun (p:Int×Int)=>((AV.tuple [AV.int .i64 p.1,AV.int .i64 p.2]):AV)) (xeX R b i c d e f a g) (XF P0 (xds R) Tryz.f127 (Tryz.f127.body.getD .skip) [AV.agg [AV.int .i64 b,AV.int .i64 i,AV.int .i64 c,AV.int .i64 d,AV.str e,AV.str f,AV.list 7 a],AV.list 1 g]):=by
 have h:XF P0 (xds R) Tryz.f127 (Tryz.f127.body.getD .skip) [AV.agg [AV.int .i64 b,AV.int .i64 i,AV.int .i64 c,AV.int .i64 d,AV.str e,AV.str f,AV.list 7 a],AV.list 1 g]=xjP R b i c d e f a g none (fun (p:Int×Int)=>some ((AV.tuple [AV.int .i64 p.1,AV.int .i64 p.2]):AV)):=by kernel_rfl
 rw [h];unfold xeX xjP xh5;repeat' (first|refine Enc.br ?_ ?_|exact Enc.none|exact Enc.some rfl)
def xwf (R:Int->Int->Int->Int->List UInt8->List UInt8->LA->LA->Option (Int×Int)):LA->Option (Bool×AV):=ocOf (xJv (xJM (xJv (sEq (pInt .i64)) (xJv (sEq (pInt .i64)) (xJv (sEq (pInt .i64)) (xJv (sEq (pInt .i64)) (xJv (sEq pStr) (xJv (sEq pStr) (xJv (xJL 7 xJz) xJy)))))))) (xJv (xJL 1 xJz) xJy)) fun ((b,(i,(c,(d,(e,(f,(a,_))))))),(g,_))=>((xeX R b i c d e f a g).isSome,(AV.tuple [AV.int .i64 ((xeX R b i c d e f a g).getD (0,0)).1,AV.int .i64 ((xeX R b i c d e f a g).getD (0,0)).2]))
theorem xwe (R:Int->Int->Int->Int->List UInt8->List UInt8->LA->LA->Option (Int×Int)) (a:xda R):OcOk P0 xJt 127 (xwf R):=xiX fun e h f=>by
 obtain ⟨⟨j,⟨i,⟨k,⟨l,⟨m,⟨n,⟨g,_⟩⟩⟩⟩⟩⟩⟩,⟨o,_⟩⟩:=e;obtain ⟨b,c⟩:=Prod.mk.inj f;refine xj6 (p:=(xds R).pin) (xlU xIW (xIX P0 _) rfl (xsc R a) Tryz.func127 rfl (by kernel_rfl) (xqC R a) ((xwg R _ _ _ _ _ _ _ _ _ (xbt (d:=(0,0)) b)).trans ?_))
 exact congrArg some c
def xcA:Nat->Int->Int->Int->Int->List UInt8->List UInt8->LA->LA->Option (Int×Int)
 | 0=>fun _ _ _ _ _ _ _ _=>none
 | fu_+1=>fun b i c d e f a g=>xeX (xcA fu_) b i c d e f a g
theorem xor:∀ n,xda (xcA n)
 | 0=>xiX fun _ _ h=>absurd (Prod.mk.inj h).1 Bool.false_ne_true
 | fu_+1=>fun a r h=>xwe (xcA fu_) (xor fu_) a r h
def xfv:Int->Int->Int->Int->List UInt8->List UInt8->LA->LA->Option (Int×Int):=fun b i c d e f a g=>limN fun n=>xcA n b i c d e f a g
theorem xtd:xda xfv:=xrc 127 xcA xor
def xBC:Env:=xto.with 127 (xdt xfv)
theorem xBE:xIN P0 xJt xBC:=xrg.with xtd
def xBD:EO:=EO.mk xBC xBE
def xm8 {T:Type} (b h c d:Int) (e f:List UInt8) (a g:LA) (δ:T) (κ:Int×Int->T):T:=br ((xhA b h c d e f a).isSome) (br (decide ((xhA b h c d e f a).getD 0>24)) (κ (0,26)) (br ((xfv b h c d e f a g).isSome) (κ (((xfv b h c d e f a g).getD (0,0)).fst,((xfv b h c d e f a g).getD (0,0)).snd)) δ)) δ
def xpF (c h d e:Int) (f g:List UInt8) (a b:LA):=xm8 c h d e f g a b none some
def xEv:EO:=xBD.f Tryz.func107 14 0 [] [] lk0 (u2 (xJM (u7 uI uI uI uI (sEq pStr) (sEq pStr) (uL 7))) (uL 1)) (fun ((c,i,d,e,g,h,a,_),b,_) _=>xm8 c i d e g h a b) (fun _ p=>AV.tuple [AV.int .i64 p.1,AV.int .i64 p.2]) (0,0)
def xzr:LA:=(([AV.str [(97:UInt8),(100:UInt8),(100:UInt8)],AV.str [(97:UInt8),(102:UInt8),(116:UInt8),(101:UInt8),(114:UInt8)],AV.str [(97:UInt8),(108:UInt8),(108:UInt8)],AV.str [(97:UInt8),(108:UInt8),(116:UInt8),(101:UInt8),(114:UInt8)],AV.str [(97:UInt8),(110:UInt8),(100:UInt8)],AV.str [(97:UInt8),(115:UInt8)],AV.str [(98:UInt8),(101:UInt8),(102:UInt8),(111:UInt8),(114:UInt8),(101:UInt8)],AV.str [(98:UInt8),(101:UInt8),(103:UInt8),(105:UInt8),(110:UInt8)],AV.str [(98:UInt8),(101:UInt8),(116:UInt8),(119:UInt8),(101:UInt8),(101:UInt8),(110:UInt8)],AV.str [(98:UInt8),(111:UInt8),(111:UInt8),(108:UInt8)],AV.str [(98:UInt8),(121:UInt8)],AV.str [(99:UInt8),(104:UInt8),(101:UInt8),(99:UInt8),(107:UInt8)],AV.str [(99:UInt8),(111:UInt8),(97:UInt8),(108:UInt8),(101:UInt8),(115:UInt8),(99:UInt8),(101:UInt8)],AV.str [(99:UInt8),(111:UInt8),(109:UInt8),(109:UInt8),(105:UInt8),(116:UInt8)],AV.str [(99:UInt8),(111:UInt8),(110:UInt8),(116:UInt8),(97:UInt8),(105:UInt8),(110:UInt8),(115:UInt8)],AV.str [(99:UInt8),(111:UInt8),(117:UInt8),(110:UInt8),(116:UInt8)],AV.str [(99:UInt8),(114:UInt8),(101:UInt8),(97:UInt8),(116:UInt8),(101:UInt8)],AV.str [(100:UInt8),(101:UInt8),(102:UInt8),(97:UInt8),(117:UInt8),(108:UInt8),(116:UInt8)],AV.str [(100:UInt8),(101:UInt8),(108:UInt8),(101:UInt8),(116:UInt8),(101:UInt8)],AV.str [(100:UInt8),(101:UInt8),(115:UInt8),(99:UInt8)],AV.str [(100:UInt8),(105:UInt8),(115:UInt8),(116:UInt8),(105:UInt8),(110:UInt8),(99:UInt8),(116:UInt8)],AV.str [(100:UInt8),(114:UInt8),(111:UInt8),(112:UInt8)],AV.str [(100:UInt8),(117:UInt8),(114:UInt8),(105:UInt8),(110:UInt8),(103:UInt8)],AV.str [(101:UInt8),(113:UInt8),(117:UInt8),(97:UInt8),(108:UInt8),(115:UInt8)],AV.str [(101:UInt8),(120:UInt8),(99:UInt8),(101:UInt8),(112:UInt8),(116:UInt8)],AV.str [(102:UInt8),(97:UInt8),(108:UInt8),(115:UInt8),(101:UInt8)],AV.str [(102:UInt8),(105:UInt8),(110:UInt8),(105:UInt8),(115:UInt8),(104:UInt8),(101:UInt8),(100:UInt8),(98:UInt8),(121:UInt8)],AV.str [(102:UInt8),(105:UInt8),(110:UInt8),(105:UInt8),(115:UInt8),(104:UInt8),(101:UInt8),(115:UInt8)],AV.str [(102:UInt8),(111:UInt8),(114:UInt8),(101:UInt8),(105:UInt8),(103:UInt8),(110:UInt8)],AV.str [(102:UInt8),(111:UInt8),(114:UInt8),(101:UInt8),(118:UInt8),(101:UInt8),(114:UInt8)],AV.str [(102:UInt8),(114:UInt8),(111:UInt8),(109:UInt8)],AV.str [(103:UInt8),(114:UInt8),(111:UInt8),(117:UInt8),(112:UInt8)],AV.str [(104:UInt8),(111:UInt8),(108:UInt8),(100:UInt8)],AV.str [(105:UInt8),(102:UInt8)],AV.str [(105:UInt8),(110:UInt8),(115:UInt8),(101:UInt8),(114:UInt8),(116:UInt8)],AV.str [(105:UInt8),(110:UInt8),(116:UInt8)],AV.str [(105:UInt8),(110:UInt8),(116:UInt8),(101:UInt8),(114:UInt8),(115:UInt8),(101:UInt8),(99:UInt8),(116:UInt8)],AV.str [(105:UInt8),(110:UInt8),(116:UInt8),(111:UInt8)],AV.str [(105:UInt8),(115:UInt8)],AV.str [(106:UInt8),(111:UInt8),(105:UInt8),(110:UInt8)],AV.str [(107:UInt8),(101:UInt8),(121:UInt8)],AV.str [(108:UInt8),(101:UInt8),(102:UInt8),(116:UInt8)],AV.str [(108:UInt8),(101:UInt8),(110:UInt8),(103:UInt8),(116:UInt8),(104:UInt8)],AV.str [(108:UInt8),(105:UInt8),(109:UInt8),(105:UInt8),(116:UInt8)],AV.str [(109:UInt8),(97:UInt8),(120:UInt8)],AV.str [(109:UInt8),(101:UInt8),(101:UInt8),(116:UInt8),(115:UInt8)],AV.str [(109:UInt8),(101:UInt8),(116:UInt8),(98:UInt8),(121:UInt8)],AV.str [(109:UInt8),(105:UInt8),(110:UInt8)],AV.str [(110:UInt8),(111:UInt8),(110:UInt8),(115:UInt8),(101:UInt8),(113:UInt8),(117:UInt8),(101:UInt8),(110:UInt8),(99:UInt8),(101:UInt8),(100:UInt8)],AV.str [(110:UInt8),(111:UInt8),(116:UInt8)],AV.str [(110:UInt8),(111:UInt8),(119:UInt8)],AV.str [(110:UInt8),(117:UInt8),(108:UInt8),(108:UInt8)],AV.str [(111:UInt8),(102:UInt8)],AV.str [(111:UInt8),(110:UInt8)],AV.str [(111:UInt8),(114:UInt8)],AV.str [(111:UInt8),(114:UInt8),(100:UInt8),(101:UInt8),(114:UInt8)],AV.str [(111:UInt8),(118:UInt8),(101:UInt8),(114:UInt8),(108:UInt8),(97:UInt8),(112:UInt8),(112:UInt8),(101:UInt8),(100:UInt8),(98:UInt8),(121:UInt8)],AV.str [(111:UInt8),(118:UInt8),(101:UInt8),(114:UInt8),(108:UInt8),(97:UInt8),(112:UInt8),(115:UInt8)],AV.str [(112:UInt8),(114:UInt8),(105:UInt8),(109:UInt8),(97:UInt8),(114:UInt8),(121:UInt8)],AV.str [(112:UInt8),(114:UInt8),(117:UInt8),(110:UInt8),(101:UInt8)],AV.str [(114:UInt8),(101:UInt8),(102:UInt8),(101:UInt8),(114:UInt8),(101:UInt8),(110:UInt8),(99:UInt8),(101:UInt8),(115:UInt8)],AV.str [(114:UInt8),(101:UInt8),(108:UInt8),(101:UInt8),(97:UInt8),(115:UInt8),(101:UInt8)],AV.str [(114:UInt8),(101:UInt8),(110:UInt8),(97:UInt8),(109:UInt8),(101:UInt8)],AV.str [(114:UInt8),(101:UInt8),(116:UInt8),(97:UInt8),(105:UInt8),(110:UInt8)],AV.str [(114:UInt8),(111:UInt8),(108:UInt8),(108:UInt8),(98:UInt8),(97:UInt8),(99:UInt8),(107:UInt8)],AV.str [(115:UInt8),(101:UInt8),(108:UInt8),(101:UInt8),(99:UInt8),(116:UInt8)],AV.str [(115:UInt8),(101:UInt8),(113:UInt8),(117:UInt8),(101:UInt8),(110:UInt8),(99:UInt8),(101:UInt8),(100:UInt8)],AV.str [(115:UInt8),(101:UInt8),(116:UInt8)],AV.str [(115:UInt8),(116:UInt8),(97:UInt8),(114:UInt8),(116:UInt8),(101:UInt8),(100:UInt8),(98:UInt8),(121:UInt8)],AV.str [(115:UInt8),(116:UInt8),(97:UInt8),(114:UInt8),(116:UInt8),(115:UInt8)],AV.str [(115:UInt8),(117:UInt8),(109:UInt8)],AV.str [(115:UInt8),(121:UInt8),(115:UInt8),(116:UInt8),(101:UInt8),(109:UInt8)],AV.str [(115:UInt8),(121:UInt8),(115:UInt8),(116:UInt8),(101:UInt8),(109:UInt8),(102:UInt8),(114:UInt8),(111:UInt8),(109:UInt8)],AV.str [(115:UInt8),(121:UInt8),(115:UInt8),(116:UInt8),(101:UInt8),(109:UInt8),(116:UInt8),(111:UInt8)],AV.str [(116:UInt8),(97:UInt8),(98:UInt8),(108:UInt8),(101:UInt8)],AV.str [(116:UInt8),(101:UInt8),(120:UInt8),(116:UInt8)],AV.str [(116:UInt8),(111:UInt8)],AV.str [(116:UInt8),(114:UInt8),(117:UInt8),(101:UInt8)],AV.str [(116:UInt8),(120:UInt8)],AV.str [(117:UInt8),(110:UInt8),(100:UInt8),(101:UInt8),(114:UInt8)],AV.str [(117:UInt8),(110:UInt8),(105:UInt8),(111:UInt8),(110:UInt8)],AV.str [(117:UInt8),(112:UInt8),(100:UInt8),(97:UInt8),(116:UInt8),(101:UInt8)],AV.str [(118:UInt8),(97:UInt8),(108:UInt8),(105:UInt8),(100:UInt8)],AV.str [(118:UInt8),(97:UInt8),(108:UInt8),(105:UInt8),(100:UInt8),(102:UInt8),(114:UInt8),(111:UInt8),(109:UInt8)],AV.str [(118:UInt8),(97:UInt8),(108:UInt8),(105:UInt8),(100:UInt8),(116:UInt8),(111:UInt8)],AV.str [(118:UInt8),(97:UInt8),(108:UInt8),(117:UInt8),(101:UInt8),(115:UInt8)],AV.str [(119:UInt8),(104:UInt8),(101:UInt8),(114:UInt8),(101:UInt8)]]))
def xwn {T:Type} (δ:T) (κ:LA->T):T:=κ ([AV.str [(97:UInt8),(100:UInt8),(100:UInt8)],AV.str [(97:UInt8),(102:UInt8),(116:UInt8),(101:UInt8),(114:UInt8)],AV.str [(97:UInt8),(108:UInt8),(108:UInt8)],AV.str [(97:UInt8),(108:UInt8),(116:UInt8),(101:UInt8),(114:UInt8)],AV.str [(97:UInt8),(110:UInt8),(100:UInt8)],AV.str [(97:UInt8),(115:UInt8)],AV.str [(98:UInt8),(101:UInt8),(102:UInt8),(111:UInt8),(114:UInt8),(101:UInt8)],AV.str [(98:UInt8),(101:UInt8),(103:UInt8),(105:UInt8),(110:UInt8)],AV.str [(98:UInt8),(101:UInt8),(116:UInt8),(119:UInt8),(101:UInt8),(101:UInt8),(110:UInt8)],AV.str [(98:UInt8),(111:UInt8),(111:UInt8),(108:UInt8)],AV.str [(98:UInt8),(121:UInt8)],AV.str [(99:UInt8),(104:UInt8),(101:UInt8),(99:UInt8),(107:UInt8)],AV.str [(99:UInt8),(111:UInt8),(97:UInt8),(108:UInt8),(101:UInt8),(115:UInt8),(99:UInt8),(101:UInt8)],AV.str [(99:UInt8),(111:UInt8),(109:UInt8),(109:UInt8),(105:UInt8),(116:UInt8)],AV.str [(99:UInt8),(111:UInt8),(110:UInt8),(116:UInt8),(97:UInt8),(105:UInt8),(110:UInt8),(115:UInt8)],AV.str [(99:UInt8),(111:UInt8),(117:UInt8),(110:UInt8),(116:UInt8)],AV.str [(99:UInt8),(114:UInt8),(101:UInt8),(97:UInt8),(116:UInt8),(101:UInt8)],AV.str [(100:UInt8),(101:UInt8),(102:UInt8),(97:UInt8),(117:UInt8),(108:UInt8),(116:UInt8)],AV.str [(100:UInt8),(101:UInt8),(108:UInt8),(101:UInt8),(116:UInt8),(101:UInt8)],AV.str [(100:UInt8),(101:UInt8),(115:UInt8),(99:UInt8)],AV.str [(100:UInt8),(105:UInt8),(115:UInt8),(116:UInt8),(105:UInt8),(110:UInt8),(99:UInt8),(116:UInt8)],AV.str [(100:UInt8),(114:UInt8),(111:UInt8),(112:UInt8)],AV.str [(100:UInt8),(117:UInt8),(114:UInt8),(105:UInt8),(110:UInt8),(103:UInt8)],AV.str [(101:UInt8),(113:UInt8),(117:UInt8),(97:UInt8),(108:UInt8),(115:UInt8)],AV.str [(101:UInt8),(120:UInt8),(99:UInt8),(101:UInt8),(112:UInt8),(116:UInt8)],AV.str [(102:UInt8),(97:UInt8),(108:UInt8),(115:UInt8),(101:UInt8)],AV.str [(102:UInt8),(105:UInt8),(110:UInt8),(105:UInt8),(115:UInt8),(104:UInt8),(101:UInt8),(100:UInt8),(98:UInt8),(121:UInt8)],AV.str [(102:UInt8),(105:UInt8),(110:UInt8),(105:UInt8),(115:UInt8),(104:UInt8),(101:UInt8),(115:UInt8)],AV.str [(102:UInt8),(111:UInt8),(114:UInt8),(101:UInt8),(105:UInt8),(103:UInt8),(110:UInt8)],AV.str [(102:UInt8),(111:UInt8),(114:UInt8),(101:UInt8),(118:UInt8),(101:UInt8),(114:UInt8)],AV.str [(102:UInt8),(114:UInt8),(111:UInt8),(109:UInt8)],AV.str [(103:UInt8),(114:UInt8),(111:UInt8),(117:UInt8),(112:UInt8)],AV.str [(104:UInt8),(111:UInt8),(108:UInt8),(100:UInt8)],AV.str [(105:UInt8),(102:UInt8)],AV.str [(105:UInt8),(110:UInt8),(115:UInt8),(101:UInt8),(114:UInt8),(116:UInt8)],AV.str [(105:UInt8),(110:UInt8),(116:UInt8)],AV.str [(105:UInt8),(110:UInt8),(116:UInt8),(101:UInt8),(114:UInt8),(115:UInt8),(101:UInt8),(99:UInt8),(116:UInt8)],AV.str [(105:UInt8),(110:UInt8),(116:UInt8),(111:UInt8)],AV.str [(105:UInt8),(115:UInt8)],AV.str [(106:UInt8),(111:UInt8),(105:UInt8),(110:UInt8)],AV.str [(107:UInt8),(101:UInt8),(121:UInt8)],AV.str [(108:UInt8),(101:UInt8),(102:UInt8),(116:UInt8)],AV.str [(108:UInt8),(101:UInt8),(110:UInt8),(103:UInt8),(116:UInt8),(104:UInt8)],AV.str [(108:UInt8),(105:UInt8),(109:UInt8),(105:UInt8),(116:UInt8)],AV.str [(109:UInt8),(97:UInt8),(120:UInt8)],AV.str [(109:UInt8),(101:UInt8),(101:UInt8),(116:UInt8),(115:UInt8)],AV.str [(109:UInt8),(101:UInt8),(116:UInt8),(98:UInt8),(121:UInt8)],AV.str [(109:UInt8),(105:UInt8),(110:UInt8)],AV.str [(110:UInt8),(111:UInt8),(110:UInt8),(115:UInt8),(101:UInt8),(113:UInt8),(117:UInt8),(101:UInt8),(110:UInt8),(99:UInt8),(101:UInt8),(100:UInt8)],AV.str [(110:UInt8),(111:UInt8),(116:UInt8)],AV.str [(110:UInt8),(111:UInt8),(119:UInt8)],AV.str [(110:UInt8),(117:UInt8),(108:UInt8),(108:UInt8)],AV.str [(111:UInt8),(102:UInt8)],AV.str [(111:UInt8),(110:UInt8)],AV.str [(111:UInt8),(114:UInt8)],AV.str [(111:UInt8),(114:UInt8),(100:UInt8),(101:UInt8),(114:UInt8)],AV.str [(111:UInt8),(118:UInt8),(101:UInt8),(114:UInt8),(108:UInt8),(97:UInt8),(112:UInt8),(112:UInt8),(101:UInt8),(100:UInt8),(98:UInt8),(121:UInt8)],AV.str [(111:UInt8),(118:UInt8),(101:UInt8),(114:UInt8),(108:UInt8),(97:UInt8),(112:UInt8),(115:UInt8)],AV.str [(112:UInt8),(114:UInt8),(105:UInt8),(109:UInt8),(97:UInt8),(114:UInt8),(121:UInt8)],AV.str [(112:UInt8),(114:UInt8),(117:UInt8),(110:UInt8),(101:UInt8)],AV.str [(114:UInt8),(101:UInt8),(102:UInt8),(101:UInt8),(114:UInt8),(101:UInt8),(110:UInt8),(99:UInt8),(101:UInt8),(115:UInt8)],AV.str [(114:UInt8),(101:UInt8),(108:UInt8),(101:UInt8),(97:UInt8),(115:UInt8),(101:UInt8)],AV.str [(114:UInt8),(101:UInt8),(110:UInt8),(97:UInt8),(109:UInt8),(101:UInt8)],AV.str [(114:UInt8),(101:UInt8),(116:UInt8),(97:UInt8),(105:UInt8),(110:UInt8)],AV.str [(114:UInt8),(111:UInt8),(108:UInt8),(108:UInt8),(98:UInt8),(97:UInt8),(99:UInt8),(107:UInt8)],AV.str [(115:UInt8),(101:UInt8),(108:UInt8),(101:UInt8),(99:UInt8),(116:UInt8)],AV.str [(115:UInt8),(101:UInt8),(113:UInt8),(117:UInt8),(101:UInt8),(110:UInt8),(99:UInt8),(101:UInt8),(100:UInt8)],AV.str [(115:UInt8),(101:UInt8),(116:UInt8)],AV.str [(115:UInt8),(116:UInt8),(97:UInt8),(114:UInt8),(116:UInt8),(101:UInt8),(100:UInt8),(98:UInt8),(121:UInt8)],AV.str [(115:UInt8),(116:UInt8),(97:UInt8),(114:UInt8),(116:UInt8),(115:UInt8)],AV.str [(115:UInt8),(117:UInt8),(109:UInt8)],AV.str [(115:UInt8),(121:UInt8),(115:UInt8),(116:UInt8),(101:UInt8),(109:UInt8)],AV.str [(115:UInt8),(121:UInt8),(115:UInt8),(116:UInt8),(101:UInt8),(109:UInt8),(102:UInt8),(114:UInt8),(111:UInt8),(109:UInt8)],AV.str [(115:UInt8),(121:UInt8),(115:UInt8),(116:UInt8),(101:UInt8),(109:UInt8),(116:UInt8),(111:UInt8)],AV.str [(116:UInt8),(97:UInt8),(98:UInt8),(108:UInt8),(101:UInt8)],AV.str [(116:UInt8),(101:UInt8),(120:UInt8),(116:UInt8)],AV.str [(116:UInt8),(111:UInt8)],AV.str [(116:UInt8),(114:UInt8),(117:UInt8),(101:UInt8)],AV.str [(116:UInt8),(120:UInt8)],AV.str [(117:UInt8),(110:UInt8),(100:UInt8),(101:UInt8),(114:UInt8)],AV.str [(117:UInt8),(110:UInt8),(105:UInt8),(111:UInt8),(110:UInt8)],AV.str [(117:UInt8),(112:UInt8),(100:UInt8),(97:UInt8),(116:UInt8),(101:UInt8)],AV.str [(118:UInt8),(97:UInt8),(108:UInt8),(105:UInt8),(100:UInt8)],AV.str [(118:UInt8),(97:UInt8),(108:UInt8),(105:UInt8),(100:UInt8),(102:UInt8),(114:UInt8),(111:UInt8),(109:UInt8)],AV.str [(118:UInt8),(97:UInt8),(108:UInt8),(105:UInt8),(100:UInt8),(116:UInt8),(111:UInt8)],AV.str [(118:UInt8),(97:UInt8),(108:UInt8),(117:UInt8),(101:UInt8),(115:UInt8)],AV.str [(119:UInt8),(104:UInt8),(101:UInt8),(114:UInt8),(101:UInt8)]])
def xBF:EO:=xEv.fT Tryz.func103 2 0 [] [] lk0 (fun _=>xwn none) xJy (fun _=>xzr) (fun _ p=>(AV.list 1 p))
def xjR {T:Type} (l:LA) (a:List UInt8) (i:Int) (δ:T) (κl:(Int)->T) (κr:(Bool×(Bool)×(Unit))->T):T:=br (decide (i<l.length)) (br (ixI l i) (br (decide (i.toNat<l.length)&&xIL Sh.str (gC l i 0)) (br ((gC l i 0).toStr==a) (κr (true,(true),())) (κl (i64.wrap (i+1)))) δ) δ) (κr (false,false,()))
def xcE (l:LA) (a:List UInt8):StT (Int) (Bool×(Bool)×(Unit)):=fun (i)=>xjR l a i none inL inR
def xp6:=xBF.l 18 0 [] [] Tryz.f102 0 lk0 [0,1,5] [4] [] (q3 (qL 1) pStr qI) xJw (fun (l,a,i,_) _=>(xcE l a,(i),fun p=>(.node p.1 (.leaf .ret [AV.bool p.2.1] []) (.leaf (.exit 0) [.top] [])))) (false,false,()) fun (l,a,_,_) _ (i)=>(((l,a,i,()),()),xjR l a i none)
def xqE {T:Type} (l:LA) (a:List UInt8) (δ:T) (κ:Bool->T):T:=br ((Iter (xcE l a) 0).isSome) (br (((Iter (xcE l a) 0).getD (false,false,())).fst) (κ (((Iter (xcE l a) 0).getD (false,false,())).snd.fst)) (κ (false))) δ
def xth (l:LA) (a:List UInt8):=xqE l a none some
def xBG:EO:=xBF.f Tryz.func102 18 0 [] [(2,xp6.lp)] (lk1 xp6.ok) (u2 (uL 1) (sEq pStr)) (fun (l,a,_) _=>xqE l a) (fun _ p=>AV.bool p) false
def xgj {T:Type} (a:List UInt8) (i:Int) (κl:(Int)->T) (κr:(Bool×(Bool)×(Unit))->T):T:=br (!(↑(a.getD i.toNat (0:UInt8)).toNat:Int)==95) (κr (true,(false),())) (κl (i64.wrap (i+1)))
def xgi {T:Type} (a:List UInt8) (i:Int) (κl:(Int)->T) (κr:(Bool×(Bool)×(Unit))->T):T:=br (decide ((↑(a.getD i.toNat (0:UInt8)).toNat:Int)>=48)) (br (decide ((↑(a.getD i.toNat (0:UInt8)).toNat:Int)<=57)) (κl (i64.wrap (i+1))) (xgj a i κl κr)) (xgj a i κl κr)
def xh7 {T:Type} (a:List UInt8) (i:Int) (δ:T) (κl:(Int)->T) (κr:(Bool×(Bool)×(Unit))->T):T:=br (decide (i<a.length)) (br (decide (0<=i)&&decide (i<a.length)) (br (decide ((↑(a.getD i.toNat (0:UInt8)).toNat:Int)>=97)) (br (decide ((↑(a.getD i.toNat (0:UInt8)).toNat:Int)<=122)) (κl (i64.wrap (i+1))) (xgi a i κl κr)) (xgi a i κl κr)) δ) (κr (false,false,()))
def xbZ (a:List UInt8):StT (Int) (Bool×(Bool)×(Unit)):=fun (i)=>xh7 a i none inL inR
def xoy:=xBG.l 54 0 [] [] Tryz.f76 0 lk0 [0,3] [0,2] [] (q2 pStr qI) xJw (fun (a,i,_) _=>(xbZ a,(i),fun p=>(.node p.1 (.leaf .ret [AV.str a,AV.bool p.2.1] []) (.leaf (.exit 0) [AV.str a,.top] [])))) (false,false,()) fun (a,_,_) _ (i)=>(((a,i,()),()),xh7 a i none)
def xng (a:List UInt8):=xth [AV.str [(97:UInt8),(100:UInt8),(100:UInt8)],AV.str [(97:UInt8),(102:UInt8),(116:UInt8),(101:UInt8),(114:UInt8)],AV.str [(97:UInt8),(108:UInt8),(108:UInt8)],AV.str [(97:UInt8),(108:UInt8),(116:UInt8),(101:UInt8),(114:UInt8)],AV.str [(97:UInt8),(110:UInt8),(100:UInt8)],AV.str [(97:UInt8),(115:UInt8)],AV.str [(98:UInt8),(101:UInt8),(102:UInt8),(111:UInt8),(114:UInt8),(101:UInt8)],AV.str [(98:UInt8),(101:UInt8),(103:UInt8),(105:UInt8),(110:UInt8)],AV.str [(98:UInt8),(101:UInt8),(116:UInt8),(119:UInt8),(101:UInt8),(101:UInt8),(110:UInt8)],AV.str [(98:UInt8),(111:UInt8),(111:UInt8),(108:UInt8)],AV.str [(98:UInt8),(121:UInt8)],AV.str [(99:UInt8),(104:UInt8),(101:UInt8),(99:UInt8),(107:UInt8)],AV.str [(99:UInt8),(111:UInt8),(97:UInt8),(108:UInt8),(101:UInt8),(115:UInt8),(99:UInt8),(101:UInt8)],AV.str [(99:UInt8),(111:UInt8),(109:UInt8),(109:UInt8),(105:UInt8),(116:UInt8)],AV.str [(99:UInt8),(111:UInt8),(110:UInt8),(116:UInt8),(97:UInt8),(105:UInt8),(110:UInt8),(115:UInt8)],AV.str [(99:UInt8),(111:UInt8),(117:UInt8),(110:UInt8),(116:UInt8)],AV.str [(99:UInt8),(114:UInt8),(101:UInt8),(97:UInt8),(116:UInt8),(101:UInt8)],AV.str [(100:UInt8),(101:UInt8),(102:UInt8),(97:UInt8),(117:UInt8),(108:UInt8),(116:UInt8)],AV.str [(100:UInt8),(101:UInt8),(108:UInt8),(101:UInt8),(116:UInt8),(101:UInt8)],AV.str [(100:UInt8),(101:UInt8),(115:UInt8),(99:UInt8)],AV.str [(100:UInt8),(105:UInt8),(115:UInt8),(116:UInt8),(105:UInt8),(110:UInt8),(99:UInt8),(116:UInt8)],AV.str [(100:UInt8),(114:UInt8),(111:UInt8),(112:UInt8)],AV.str [(100:UInt8),(117:UInt8),(114:UInt8),(105:UInt8),(110:UInt8),(103:UInt8)],AV.str [(101:UInt8),(113:UInt8),(117:UInt8),(97:UInt8),(108:UInt8),(115:UInt8)],AV.str [(101:UInt8),(120:UInt8),(99:UInt8),(101:UInt8),(112:UInt8),(116:UInt8)],AV.str [(102:UInt8),(97:UInt8),(108:UInt8),(115:UInt8),(101:UInt8)],AV.str [(102:UInt8),(105:UInt8),(110:UInt8),(105:UInt8),(115:UInt8),(104:UInt8),(101:UInt8),(100:UInt8),(98:UInt8),(121:UInt8)],AV.str [(102:UInt8),(105:UInt8),(110:UInt8),(105:UInt8),(115:UInt8),(104:UInt8),(101:UInt8),(115:UInt8)],AV.str [(102:UInt8),(111:UInt8),(114:UInt8),(101:UInt8),(105:UInt8),(103:UInt8),(110:UInt8)],AV.str [(102:UInt8),(111:UInt8),(114:UInt8),(101:UInt8),(118:UInt8),(101:UInt8),(114:UInt8)],AV.str [(102:UInt8),(114:UInt8),(111:UInt8),(109:UInt8)],AV.str [(103:UInt8),(114:UInt8),(111:UInt8),(117:UInt8),(112:UInt8)],AV.str [(104:UInt8),(111:UInt8),(108:UInt8),(100:UInt8)],AV.str [(105:UInt8),(102:UInt8)],AV.str [(105:UInt8),(110:UInt8),(115:UInt8),(101:UInt8),(114:UInt8),(116:UInt8)],AV.str [(105:UInt8),(110:UInt8),(116:UInt8)],AV.str [(105:UInt8),(110:UInt8),(116:UInt8),(101:UInt8),(114:UInt8),(115:UInt8),(101:UInt8),(99:UInt8),(116:UInt8)],AV.str [(105:UInt8),(110:UInt8),(116:UInt8),(111:UInt8)],AV.str [(105:UInt8),(115:UInt8)],AV.str [(106:UInt8),(111:UInt8),(105:UInt8),(110:UInt8)],AV.str [(107:UInt8),(101:UInt8),(121:UInt8)],AV.str [(108:UInt8),(101:UInt8),(102:UInt8),(116:UInt8)],AV.str [(108:UInt8),(101:UInt8),(110:UInt8),(103:UInt8),(116:UInt8),(104:UInt8)],AV.str [(108:UInt8),(105:UInt8),(109:UInt8),(105:UInt8),(116:UInt8)],AV.str [(109:UInt8),(97:UInt8),(120:UInt8)],AV.str [(109:UInt8),(101:UInt8),(101:UInt8),(116:UInt8),(115:UInt8)],AV.str [(109:UInt8),(101:UInt8),(116:UInt8),(98:UInt8),(121:UInt8)],AV.str [(109:UInt8),(105:UInt8),(110:UInt8)],AV.str [(110:UInt8),(111:UInt8),(110:UInt8),(115:UInt8),(101:UInt8),(113:UInt8),(117:UInt8),(101:UInt8),(110:UInt8),(99:UInt8),(101:UInt8),(100:UInt8)],AV.str [(110:UInt8),(111:UInt8),(116:UInt8)],AV.str [(110:UInt8),(111:UInt8),(119:UInt8)],AV.str [(110:UInt8),(117:UInt8),(108:UInt8),(108:UInt8)],AV.str [(111:UInt8),(102:UInt8)],AV.str [(111:UInt8),(110:UInt8)],AV.str [(111:UInt8),(114:UInt8)],AV.str [(111:UInt8),(114:UInt8),(100:UInt8),(101:UInt8),(114:UInt8)],AV.str [(111:UInt8),(118:UInt8),(101:UInt8),(114:UInt8),(108:UInt8),(97:UInt8),(112:UInt8),(112:UInt8),(101:UInt8),(100:UInt8),(98:UInt8),(121:UInt8)],AV.str [(111:UInt8),(118:UInt8),(101:UInt8),(114:UInt8),(108:UInt8),(97:UInt8),(112:UInt8),(115:UInt8)],AV.str [(112:UInt8),(114:UInt8),(105:UInt8),(109:UInt8),(97:UInt8),(114:UInt8),(121:UInt8)],AV.str [(112:UInt8),(114:UInt8),(117:UInt8),(110:UInt8),(101:UInt8)],AV.str [(114:UInt8),(101:UInt8),(102:UInt8),(101:UInt8),(114:UInt8),(101:UInt8),(110:UInt8),(99:UInt8),(101:UInt8),(115:UInt8)],AV.str [(114:UInt8),(101:UInt8),(108:UInt8),(101:UInt8),(97:UInt8),(115:UInt8),(101:UInt8)],AV.str [(114:UInt8),(101:UInt8),(110:UInt8),(97:UInt8),(109:UInt8),(101:UInt8)],AV.str [(114:UInt8),(101:UInt8),(116:UInt8),(97:UInt8),(105:UInt8),(110:UInt8)],AV.str [(114:UInt8),(111:UInt8),(108:UInt8),(108:UInt8),(98:UInt8),(97:UInt8),(99:UInt8),(107:UInt8)],AV.str [(115:UInt8),(101:UInt8),(108:UInt8),(101:UInt8),(99:UInt8),(116:UInt8)],AV.str [(115:UInt8),(101:UInt8),(113:UInt8),(117:UInt8),(101:UInt8),(110:UInt8),(99:UInt8),(101:UInt8),(100:UInt8)],AV.str [(115:UInt8),(101:UInt8),(116:UInt8)],AV.str [(115:UInt8),(116:UInt8),(97:UInt8),(114:UInt8),(116:UInt8),(101:UInt8),(100:UInt8),(98:UInt8),(121:UInt8)],AV.str [(115:UInt8),(116:UInt8),(97:UInt8),(114:UInt8),(116:UInt8),(115:UInt8)],AV.str [(115:UInt8),(117:UInt8),(109:UInt8)],AV.str [(115:UInt8),(121:UInt8),(115:UInt8),(116:UInt8),(101:UInt8),(109:UInt8)],AV.str [(115:UInt8),(121:UInt8),(115:UInt8),(116:UInt8),(101:UInt8),(109:UInt8),(102:UInt8),(114:UInt8),(111:UInt8),(109:UInt8)],AV.str [(115:UInt8),(121:UInt8),(115:UInt8),(116:UInt8),(101:UInt8),(109:UInt8),(116:UInt8),(111:UInt8)],AV.str [(116:UInt8),(97:UInt8),(98:UInt8),(108:UInt8),(101:UInt8)],AV.str [(116:UInt8),(101:UInt8),(120:UInt8),(116:UInt8)],AV.str [(116:UInt8),(111:UInt8)],AV.str [(116:UInt8),(114:UInt8),(117:UInt8),(101:UInt8)],AV.str [(116:UInt8),(120:UInt8)],AV.str [(117:UInt8),(110:UInt8),(100:UInt8),(101:UInt8),(114:UInt8)],AV.str [(117:UInt8),(110:UInt8),(105:UInt8),(111:UInt8),(110:UInt8)],AV.str [(117:UInt8),(112:UInt8),(100:UInt8),(97:UInt8),(116:UInt8),(101:UInt8)],AV.str [(118:UInt8),(97:UInt8),(108:UInt8),(105:UInt8),(100:UInt8)],AV.str [(118:UInt8),(97:UInt8),(108:UInt8),(105:UInt8),(100:UInt8),(102:UInt8),(114:UInt8),(111:UInt8),(109:UInt8)],AV.str [(118:UInt8),(97:UInt8),(108:UInt8),(105:UInt8),(100:UInt8),(116:UInt8),(111:UInt8)],AV.str [(118:UInt8),(97:UInt8),(108:UInt8),(117:UInt8),(101:UInt8),(115:UInt8)],AV.str [(119:UInt8),(104:UInt8),(101:UInt8),(114:UInt8),(101:UInt8)]] a
def xmc {T:Type} (a:List UInt8) (δ:T) (κ:Bool->T):T:=br ((Iter (xbZ a) 0).isSome) (br (((Iter (xbZ a) 0).getD (false,false,())).fst) (κ (((Iter (xbZ a) 0).getD (false,false,())).snd.fst)) (br ((xng a).isSome) (κ (!(xng a).getD false)) δ)) δ
def xoz {T:Type} (a:List UInt8) (δ:T) (κ:Bool->T):T:=br (a==[]) (κ (false)) (br (decide ((↑a.length:Int)>24)) (κ (false)) (br (decide (0<(↑a.length:Int))) (br (decide ((↑(a.getD 0 (0:UInt8)).toNat:Int)>=48)) (br (decide (0<(↑a.length:Int))) (br (decide ((↑(a.getD 0 (0:UInt8)).toNat:Int)<=57)) (κ (false)) (xmc a δ κ)) δ) (xmc a δ κ)) δ))
def xfP (a:List UInt8):=xoz a none some
def xwz:EO:=xBG.f Tryz.func76 54 0 [] [(4,xoy.lp)] (lk1 xoy.ok) (u1 (sEq pStr)) (fun (a,_) _=>xoz a) (fun _ p=>AV.bool p) false
def xg3 {T:Type} (b:Nat) (i:Int) (d:List UInt8) (c e f g a:LA) (δ:T) (κl:(Nat×Int×List UInt8×LA×LA×LA×LA×LA)->T) (κr:(Nat×LA)->T):T:=br (decide (i<c.length)) (br (ixI c i) (br (ixS c i (Sh.int .i64) 1) (br (rmB b a 1 8) (κl (b+1,i64.wrap (i+1),d,c,e,f,g,a++[AV.int .i64 (gC c i 1).toInt])) δ) δ) δ) (κr (b,a))
def xcu:StT (Nat×Int×List UInt8×LA×LA×LA×LA×LA) (Nat×LA):=fun (b,i,c,d,e,f,g,a)=>xg3 b i c d e f g a none inL inR
def xnt:=xwz.l 23 0 [] [] Tryz.f51 0 lk0 [1,3,4] [3] [(3,1,3)] (q3 (xJI 0 0 0 0) (xJH 1 0 0) qI) (q2 (qB 0 5 27 (q1 (xJJ (q5 pStr (qL 3) (qL 1) (qL 2) (qL 7))))) (qB 0 1 3 xJz)) (fun (_,b,i,_) (((c,d,e,f,g,_),_),a,_)=>(xcu,(b,i,c,d,e,f,g,a),fun p=>(.leaf (.exit 0) [AV.osl 0 0 0 p.1] [bF 0 1 3 p.2]))) (0,[]) fun _ _ (b,i,c,d,e,f,g,a)=>((((),b,i,()),(((c,d,e,f,g,()),()),a,())),xg3 b i c d e f g a none)
def xmb (e:List UInt8) (b a c d:LA):=Iter xcu (0,0,e,b,a,c,d,[])
def xma (e:List UInt8) (b a c d:LA):=(xmb e b a c d).getD (0,[])
def xl8 (e:List UInt8) (b a c d:LA):=(xma e b a c d).snd
def xl9 (e:List UInt8) (b a c d:LA):=(xma e b a c d).fst
def xnf {T:Type} (e:List UInt8) (b a c d:LA) (δ:T) (κ:LA->T):T:=br ((xmb e b a c d).isSome) (br (decide (0+xl9 e b a c d<=(xl8 e b a c d).length)&&true) (κ (List.take (xl9 e b a c d) (List.drop 0 (xl8 e b a c d)))) δ) δ
def xf9 (e:List UInt8) (b a c d:LA):=xnf e b a c d none some
def xwm:LA->Option (Bool×AV):=fnO (u1 (xJM (u5 (sEq pStr) (uL 3) (uL 1) (uL 2) (uL 7)))) (fun ((e,b,a,c,d,_),_) _=>xnf e b a c d) (fun _ p=>AV.list 1 p) []
theorem xqx:OcOk P0 xJt 51 xwm:=fnC xwz.ok Tryz.func51 23 0 [] [(3,xnt.lp)] (lk1 xnt.ok)
def xBH:EO:=xwz.w xqx
def xh6 {T:Type} (b:List UInt8) (i:Int) (c:List UInt8) (a d e f:LA) (δ:T) (κl:(Int×List UInt8×LA×LA×LA×LA)->T) (κr:(Bool×(Int)×(Unit))->T):T:=br (decide (i<a.length)) (br (ixI a i) (br (decide (i.toNat<a.length)&&xIL Sh.str (gC a i 0)) (br ((gC a i 0).toStr==b) (κr (true,(i),())) (κl (i64.wrap (i+1),c,a,d,e,f))) δ) δ) (κr (false,0,()))
def xcO (a:List UInt8):StT (Int×List UInt8×LA×LA×LA×LA) (Bool×(Int)×(Unit)):=fun (i,b,c,d,e,f)=>xh6 a i b c d e f none inL inR
def xov:=xBH.l 22 0 [] [] Tryz.f104 0 lk0 [1,2,5] [4] [] (q3 pStr (xJI 0 0 0 0) qI) (q1 (qB 0 5 27 (q1 (xJJ (q5 pStr (qL 3) (qL 1) (qL 2) (qL 7)))))) (fun (a,_,i,_) (((b,c,d,e,f,_),_),_)=>(xcO a,(i,b,c,d,e,f),fun p=>(.node p.1 (.leaf .ret [AV.int .i64 p.2.1] []) (.leaf (.exit 0) [.top] [])))) (false,0,()) fun (a,_,_,_) _ (i,b,c,d,e,f)=>(((a,(),i,()),(((b,c,d,e,f,()),()),())),xh6 a i b c d e f none)
def xne (e:List UInt8) (b a c d:LA) (f:List UInt8):=Iter (xcO f) (0,e,b,a,c,d)
def xnd (e:List UInt8) (b a c d:LA) (f:List UInt8):=(xne e b a c d f).getD (false,0,())
def xow {T:Type} (e:List UInt8) (b a c d:LA) (f:List UInt8) (δ:T) (κ:Int->T):T:=br ((xne e b a c d f).isSome) (br ((xnd e b a c d f).fst) (κ ((xnd e b a c d f).snd.fst)) (κ ((-1)))) δ
def xnM (e:List UInt8) (b a c d:LA) (f:List UInt8):=xow e b a c d f none some
def xFN:EO:=xBH.f Tryz.func104 22 0 [] [(2,xov.lp)] (lk1 xov.ok) (u2 (xJM (u5 (sEq pStr) (uL 3) (uL 1) (uL 2) (uL 7))) (sEq pStr)) (fun ((e,b,a,c,d,_),g,_) _=>xow e b a c d g) (fun _ p=>AV.int .i64 p) 0
def xiy (e:List UInt8) (a b c d:LA) (i:Int):Bool:=(br (decide (i>=0)) ((decide (i<a.length))) ((false)))
def xuL {T:Type} (e:List UInt8) (a b c d:LA) (i:Int) (δ:T) (κ:Bool->T):T:=br (decide (i>=0)) (κ (decide (i<a.length))) (κ (false))
def xBI:EO:=xFN.fT Tryz.func105 14 0 [] [] lk0 (fun ((e,b,a,c,d,_),i,_)=>xuL e b a c d i none) (u2 (xJM (u5 (sEq pStr) (uL 3) (uL 1) (uL 2) (uL 7))) uI) (fun ((e,b,a,c,d,_),i,_)=>xiy e b a c d i) (fun _ p=>(AV.bool p))
def xfQ {T:Type} (i:Int) (b:List UInt8) (a c d e:LA) (δ:T) (κl:(Int×List UInt8×LA×LA×LA×LA)->T) (κr:(Bool×(Int)×(Unit))->T):T:=br (decide (i<a.length)) (br (ixI a i) (br (ixT a i 3 [Sh.str,Sh.int .i64,Sh.bool] 0) (br ((xfP (gC a i 0).toStr).isSome) (br (!(xfP (gC a i 0).toStr).getD false) (κr (true,(1),())) (br (decide ((gC a i 1).toInt<1)) (κr (true,(7),())) (br (decide ((gC a i 1).toInt>3)) (κr (true,(7),())) (br ((xnM b a c d e (gC a i 0).toStr).isSome) (br (decide ((xnM b a c d e (gC a i 0).toStr).getD 0<i)) (κr (true,(10),())) (κl (i64.wrap (i+1),b,a,c,d,e))) δ)))) δ) δ) δ) (κr (false,0,()))
def xbR:StT (Int×List UInt8×LA×LA×LA×LA) (Bool×(Int)×(Unit)):=fun (i,a,b,c,d,e)=>xfQ i a b c d e none inL inR
def xly:=xBI.l 45 0 [] [] Tryz.f77 0 lk0 [1,3] [2] [] (q2 (xJI 0 0 0 0) qI) (q1 (qB 0 5 27 (q1 (xJJ (q5 pStr (qL 3) (qL 1) (qL 2) (qL 7)))))) (fun (_,i,_) (((a,b,c,d,e,_),_),_)=>(xbR,(i,a,b,c,d,e),fun p=>(.node p.1 (.leaf .ret [AV.int .i64 p.2.1] []) (.leaf (.exit 0) [.top] [])))) (false,0,()) fun _ _ (i,a,b,c,d,e)=>((((),i,()),(((a,b,c,d,e,()),()),())),xfQ i a b c d e none)
def xkc (e:List UInt8) (b a c d:LA):=Iter xbR (0,e,b,a,c,d)
def xkb (e:List UInt8) (b a c d:LA):=(xkc e b a c d).getD (false,0,())
def xlg {T:Type} (e:List UInt8) (a b c d:LA) (δ:T) (κ:Int->T):T:=br (decide ((↑a.length:Int)<1)) (κ (13)) (br (decide ((↑a.length:Int)>12)) (κ (13)) (br ((xkc e a b c d).isSome) (br ((xkb e a b c d).fst) (κ ((xkb e a b c d).snd.fst)) (κ (0))) δ))
def xfw (e:List UInt8) (b a c d:LA):=xlg e b a c d none some
def xBJ:EO:=xBI.f Tryz.func77 45 0 [] [(4,xly.lp)] (lk1 xly.ok) (u1 (xJM (u5 (sEq pStr) (uL 3) (uL 1) (uL 2) (uL 7)))) (fun ((e,b,a,c,d,_),_) _=>xlg e b a c d) (fun _ p=>AV.int .i64 p) 0
def xd9 (i:Int) (a:LA):=ixI a i
def xea (i:Int) (a:LA):=decide (i.toNat<a.length)&&xIL (Sh.int .i64) (gC a i 0)
def xby (i:Int) (a:LA):=(gC a i 0).toInt
def xdw {T:Type} (i:Int) (c:List UInt8) (b a d e:LA) (δ:T) (κl:(Int×List UInt8×LA×LA×LA×LA)->T) (κr:(Bool×(Int)×(Unit))->T):T:=br (xd9 i a) (br (xea i a) (br (decide (0<=xby i a)&&decide (xby i a<b.length)) (br (decide ((xby i a).toNat<b.length)&&xIL Sh.bool ((b.getD (xby i a).toNat .top).cells.getD 2 .top)) (br (((b.getD (xby i a).toNat .top).cells.getD 2 .top).toBool) (κr (true,(12),())) (κl (i64.wrap (i+1),c,b,a,d,e))) δ) δ) δ) δ
def xe4 {T:Type} (i:Int) (b:List UInt8) (c a d e:LA) (δ:T) (κl:(Int×List UInt8×LA×LA×LA×LA)->T) (κr:(Bool×(Int)×(Unit))->T):T:=br (decide (i<a.length)) (br (xd9 i a) (br (xea i a) (br (!xiy b c a d e (xby i a)) (κr (true,(25),())) (br (decide (i>0)) (br (xd9 i a) (br (xea i a) (br (decide (0<=i64.wrap (i - 1))&&decide (i64.wrap (i - 1)<(↑a.length:Int))) (br (decide ((i64.wrap (i - 1)).toNat<a.length)&&xIL (Sh.int .i64) ((a.getD (i64.wrap (i - 1)).toNat .top).cells.getD 0 .top)) (br (decide (xby i a<=((a.getD (i64.wrap (i - 1)).toNat .top).cells.getD 0 .top).toInt)) (κr (true,(25),())) (xdw i b c a d e δ κl κr)) δ) δ) δ) δ) (xdw i b c a d e δ κl κr))) δ) δ) (κr (false,0,()))
def xbK:StT (Int×List UInt8×LA×LA×LA×LA) (Bool×(Int)×(Unit)):=fun (i,a,b,c,d,e)=>xe4 i a b c d e none inL inR
def xpf:=xBJ.l 51 0 [] [] Tryz.f78 0 lk0 [1,3] [2] [] (q2 (xJI 0 0 0 0) qI) (q1 (qB 0 5 27 (q1 (xJJ (q5 pStr (qL 3) (qL 1) (qL 2) (qL 7)))))) (fun (_,i,_) (((a,b,c,d,e,_),_),_)=>(xbK,(i,a,b,c,d,e),fun p=>(.node p.1 (.leaf .ret [AV.int .i64 p.2.1] []) (.leaf (.exit 0) [.top] [])))) (false,0,()) fun _ _ (i,a,b,c,d,e)=>((((),i,()),(((a,b,c,d,e,()),()),())),xe4 i a b c d e none)
def xoB (e:List UInt8) (b a c d:LA):=Iter xbK (0,e,b,a,c,d)
def xoA (e:List UInt8) (b a c d:LA):=(xoB e b a c d).getD (false,0,())
def xpJ {T:Type} (e:List UInt8) (b a c d:LA) (δ:T) (κ:Int->T):T:=br ((↑a.length:Int)==0) (κ (25)) (br ((xoB e b a c d).isSome) (br ((xoA e b a c d).fst) (κ ((xoA e b a c d).snd.fst)) (κ (0))) δ)
def xmN (e:List UInt8) (b a c d:LA):=xpJ e b a c d none some
def xwA:EO:=xBJ.f Tryz.func78 51 0 [] [(4,xpf.lp)] (lk1 xpf.ok) (u1 (xJM (u5 (sEq pStr) (uL 3) (uL 1) (uL 2) (uL 7)))) (fun ((e,b,a,c,d,_),_) _=>xpJ e b a c d) (fun _ p=>AV.int .i64 p) 0
def xfR {T:Type} (i k:Int) (b:List UInt8) (c d e f a:LA) (g:List UInt8) (δ:T) (κl:(Int×List UInt8×LA×LA×LA×LA×LA×List UInt8)->T) (κr:(Bool×(Int×List UInt8×LA×LA×LA×LA×LA×List UInt8)×(List UInt8×LA×LA×LA×LA×LA×List UInt8))->T):T:=br (decide (k<i)) (br (ixI a k) (br (ixS a k (Sh.int .i64) 0) (br (ixI a i) (br (ixS a i (Sh.int .i64) 0) (br ((gC a k 0).toInt==(gC a i 0).toInt) (κr (true,(25,b,c,d,e,f,a,g),([],[],[],[],[],[],[]))) (κl (i64.wrap (k+1),b,c,d,e,f,a,g))) δ) δ) δ) δ) (κr (false,(0,[],[],[],[],[],[],[]),(b,c,d,e,f,a,g)))
def xbS (i:Int):StT (Int×List UInt8×LA×LA×LA×LA×LA×List UInt8) (Bool×(Int×List UInt8×LA×LA×LA×LA×LA×List UInt8)×(List UInt8×LA×LA×LA×LA×LA×List UInt8)):=fun (k,a,b,c,d,e,f,g)=>xfR i k a b c d e f g none inL inR
def xfj:=xwA.l 46 0 [] [] Tryz.f106 1 lk0 [2,3,5,6] [2,3,4,5] [] (q4 (xJI 0 0 0 0) (xJI 1 0 0 0) qI qI) (q2 (qB 0 5 27 (q1 (xJJ (q5 pStr (qL 3) (qL 1) (qL 2) (qL 7))))) (qB 0 2 149 (q1 (xJJ (q2 (qL 1) pStr))))) (fun (_,_,i,k,_) (((a,b,c,d,e,_),_),((f,g,_),_),_)=>(xbS i,(k,a,b,c,d,e,f,g),fun p=>(.node p.1 (.leaf .ret [AV.own 0 0 0 0,AV.own 1 0 0 0,AV.int .i64 p.2.1.1,AV.int .i64 i] [bF 0 5 27 [AV.agg [AV.str p.2.1.2.1,AV.list 3 p.2.1.2.2.1,AV.list 1 p.2.1.2.2.2.1,AV.list 2 p.2.1.2.2.2.2.1,AV.list 7 p.2.1.2.2.2.2.2.1]],bF 0 2 149 [AV.agg [AV.list 1 p.2.1.2.2.2.2.2.2.1,AV.str p.2.1.2.2.2.2.2.2.2]]]) (.leaf (.exit 2) [AV.own 0 0 0 0,AV.own 1 0 0 0,.top,AV.int .i64 i] [bF 0 5 27 [AV.agg [AV.str p.2.2.1,AV.list 3 p.2.2.2.1,AV.list 1 p.2.2.2.2.1,AV.list 2 p.2.2.2.2.2.1,AV.list 7 p.2.2.2.2.2.2.1]],bF 0 2 149 [AV.agg [AV.list 1 p.2.2.2.2.2.2.2.1,AV.str p.2.2.2.2.2.2.2.2]]])))) (false,(0,[],[],[],[],[],[],[]),([],[],[],[],[],[],[])) fun (_,_,i,_,_) _ (k,a,b,c,d,e,f,g)=>((((),(),i,k,()),(((a,b,c,d,e,()),()),((f,g,()),()),())),xfR i k a b c d e f g none)
def xhZ (i:Int) (a:List UInt8) (b c d e f:LA) (g:List UInt8):=Iter (xbS i) (0,a,b,c,d,e,f,g)
def xhY (i:Int) (a:List UInt8) (b c d e f:LA) (g:List UInt8):=(xhZ i a b c d e f g).getD (false,(0,[],[],[],[],[],[],[]),[],[],[],[],[],[],[])
def xhX (i:Int) (a:List UInt8) (b c d e f:LA) (g:List UInt8):=(xhY i a b c d e f g).snd
def xhW (i:Int) (a:List UInt8) (b c d e f:LA) (g:List UInt8):=(xhX i a b c d e f g).snd
def xhV (i:Int) (a:List UInt8) (b c d e f:LA) (g:List UInt8):=(xhW i a b c d e f g).snd
def xhU (i:Int) (a:List UInt8) (b c d e f:LA) (g:List UInt8):=(xhV i a b c d e f g).snd
def xhT (i:Int) (a:List UInt8) (b c d e f:LA) (g:List UInt8):=(xhU i a b c d e f g).snd
def xhS (i:Int) (a:List UInt8) (b c d e f:LA) (g:List UInt8):=(xhT i a b c d e f g).snd
def xhR (i:Int) (a:List UInt8) (b c d e f:LA) (g:List UInt8):=(xhS i a b c d e f g).snd
def xdS {T:Type} (i:Int) (b:List UInt8) (c d e f a:LA) (g:List UInt8) (δ:T) (κl:(Int×List UInt8×LA×LA×LA×LA×LA×List UInt8)->T) (κr:(Bool×(Int)×(Unit))->T):T:=br (decide (i<a.length)) (br (ixI a i) (br (ixS a i (Sh.int .i64) 0) (br (!xiy b c d e f (gC a i 0).toInt) (κr (true,(25),())) (br ((xhZ i b c d e f a g).isSome) (br ((xhY i b c d e f a g).fst) (κr (true,((xhX i b c d e f a g).fst.fst),())) (κl (i64.wrap (i+1),(xhW i b c d e f a g).fst,(xhV i b c d e f a g).fst,(xhU i b c d e f a g).fst,(xhT i b c d e f a g).fst,(xhS i b c d e f a g).fst,(xhR i b c d e f a g).fst,(xhR i b c d e f a g).snd))) δ)) δ) δ) (κr (false,0,()))
def xbv:StT (Int×List UInt8×LA×LA×LA×LA×LA×List UInt8) (Bool×(Int)×(Unit)):=fun (i,a,b,c,d,e,f,g)=>xdS i a b c d e f g none inL inR
def xlz:=xwA.l 46 0 [] [(11,xfj.lp)] Tryz.f106 0 (lk1 xfj.ok) [2,3,5] [4] [] (q3 (xJI 0 0 0 0) (xJI 1 0 0 0) qI) (q2 (qB 0 5 27 (q1 (xJJ (q5 pStr (qL 3) (qL 1) (qL 2) (qL 7))))) (qB 0 2 149 (q1 (xJJ (q2 (qL 1) pStr))))) (fun (_,_,i,_) (((a,b,c,d,e,_),_),((f,g,_),_),_)=>(xbv,(i,a,b,c,d,e,f,g),fun p=>(.node p.1 (.leaf .ret [AV.int .i64 p.2.1] []) (.leaf (.exit 0) [.top] [])))) (false,0,()) fun _ _ (i,a,b,c,d,e,f,g)=>((((),(),i,()),(((a,b,c,d,e,()),()),((f,g,()),()),())),xdS i a b c d e f g none)
def xke (e:List UInt8) (b a c d f:LA) (g:List UInt8):=Iter xbv (0,e,b,a,c,d,f,g)
def xkd (e:List UInt8) (b a c d f:LA) (g:List UInt8):=(xke e b a c d f g).getD (false,0,())
def xlh {T:Type} (g:List UInt8) (c a d e f:LA) (b:List UInt8) (δ:T) (κ:Int->T):T:=br ((xfP b).isSome) (br (!(xfP b).getD false) (κ (1)) (br ((↑f.length:Int)==0) (κ (25)) (br ((xke g c a d e f b).isSome) (br ((xkd g c a d e f b).fst) (κ ((xkd g c a d e f b).snd.fst)) (κ (0))) δ))) δ
def xhB (e:List UInt8) (b a c d f:LA) (g:List UInt8):=xlh e b a c d f g none some
def xwB:EO:=xwA.f Tryz.func106 46 0 [] [(11,xfj.lp),(6,xlz.lp)] (lks (lkC xlz.ok (lkC xfj.ok lkN))) (u2 (xJM (u5 (sEq pStr) (uL 3) (uL 1) (uL 2) (uL 7))) (xJM (u2 (uL 1) (sEq pStr)))) (fun ((e,b,a,c,d,_),(g,h,_),_) _=>xlh e b a c d g h) (fun _ p=>AV.int .i64 p) 0
def xdH {T:Type} (i:Int) (b:List UInt8) (c d a e:LA) (δ:T) (κl:(Int×List UInt8×LA×LA×LA×LA)->T) (κr:(Bool×(Int×List UInt8×LA×LA×LA×LA)×(List UInt8×LA×LA×LA×LA))->T):T:=br (decide (i<a.length)) (br (ixI a i) (br (ixT a i 2 [Sh.list 1,Sh.str] 0) (br ((xhB b c d a e (gC a i 0).toList (gC a i 1).toStr).isSome) (br ((xhB b c d a e (gC a i 0).toList (gC a i 1).toStr).getD 0 != 0) (κr (true,((xhB b c d a e (gC a i 0).toList (gC a i 1).toStr).getD 0,b,c,d,a,e),([],[],[],[],[]))) (κl (i64.wrap (i+1),b,c,d,a,e))) δ) δ) δ) (κr (false,(0,[],[],[],[],[]),(b,c,d,a,e)))
def xbi:StT (Int×List UInt8×LA×LA×LA×LA) (Bool×(Int×List UInt8×LA×LA×LA×LA)×(List UInt8×LA×LA×LA×LA)):=fun (i,a,b,c,d,e)=>xdH i a b c d e none inL inR
def xfo:=xwB.l 60 0 [] [] Tryz.f79 0 lk0 [1,3] [1,2] [] (q2 (xJI 0 0 0 0) qI) (q1 (qB 0 5 27 (q1 (xJJ (q5 pStr (qL 3) (qL 1) (qL 2) (qL 7)))))) (fun (_,i,_) (((a,b,c,d,e,_),_),_)=>(xbi,(i,a,b,c,d,e),fun p=>(.node p.1 (.leaf .ret [AV.own 0 0 0 0,AV.int .i64 p.2.1.1] [bF 0 5 27 [AV.agg [AV.str p.2.1.2.1,AV.list 3 p.2.1.2.2.1,AV.list 1 p.2.1.2.2.2.1,AV.list 2 p.2.1.2.2.2.2.1,AV.list 7 p.2.1.2.2.2.2.2]]]) (.leaf (.exit 0) [AV.own 0 0 0 0,.top] [bF 0 5 27 [AV.agg [AV.str p.2.2.1,AV.list 3 p.2.2.2.1,AV.list 1 p.2.2.2.2.1,AV.list 2 p.2.2.2.2.2.1,AV.list 7 p.2.2.2.2.2.2]]])))) (false,(0,[],[],[],[],[]),([],[],[],[],[])) fun _ _ (i,a,b,c,d,e)=>((((),i,()),(((a,b,c,d,e,()),()),())),xdH i a b c d e none)
def xfs (i:Int) (b:List UInt8) (c d e a:LA):=xpF (gC a i 0).toInt (gC a i 1).toInt (gC a i 2).toInt (gC a i 3).toInt (gC a i 4).toStr (gC a i 5).toStr (gC a i 6).toList ((xf9 b c d e a).getD [])
def xfr (i:Int) (a:List UInt8) (b c d e:LA):=(xfs i a b c d e).getD (0,0)
def xfp (i:Int) (a:List UInt8) (b c d e:LA):=(xfr i a b c d e).fst
def xfq (i:Int) (a:List UInt8) (b c d e:LA):=(xfr i a b c d e).snd
def xdI {T:Type} (i:Int) (b:List UInt8) (c d e a:LA) (δ:T) (κl:(Int×List UInt8×LA×LA×LA×LA)->T) (κr:(Bool×(Int)×(Unit))->T):T:=br (decide (i<a.length)) (br (ixI a i) (br (ixT a i 7 [Sh.int .i64,Sh.int .i64,Sh.int .i64,Sh.int .i64,Sh.str,Sh.str,Sh.list 7] 0) (br ((xf9 b c d e a).isSome) (br ((xfs i b c d e a).isSome) (br (xfq i b c d e a != 0) (κr (true,(xfq i b c d e a),())) (br (xfp i b c d e a != 3) (br (xfp i b c d e a != 0) (κr (true,(7),())) (κl (i64.wrap (i+1),b,c,d,e,a))) (κl (i64.wrap (i+1),b,c,d,e,a)))) δ) δ) δ) δ) (κr (false,0,()))
def xbj:StT (Int×List UInt8×LA×LA×LA×LA) (Bool×(Int)×(Unit)):=fun (i,a,b,c,d,e)=>xdI i a b c d e none inL inR
def xi9:=xwB.l 60 0 [] [(4,xfo.lp)] Tryz.f79 1 lk0 [1,5] [2] [] (q2 (xJI 0 0 0 0) qI) (q1 (qB 0 5 27 (q1 (xJJ (q5 pStr (qL 3) (qL 1) (qL 2) (qL 7)))))) (fun (_,i,_) (((a,b,c,d,e,_),_),_)=>(xbj,(i,a,b,c,d,e),fun p=>(.node p.1 (.leaf .ret [AV.int .i64 p.2.1] []) (.leaf (.exit 2) [.top] [])))) (false,0,()) fun _ _ (i,a,b,c,d,e)=>((((),i,()),(((a,b,c,d,e,()),()),())),xdI i a b c d e none)
def xhd (e:List UInt8) (b a c d:LA):=Iter xbi (0,e,b,a,c,d)
def xhc (e:List UInt8) (b a c d:LA):=(xhd e b a c d).getD (false,(0,[],[],[],[],[]),[],[],[],[],[])
def xhb (e:List UInt8) (b a c d:LA):=(xhc e b a c d).snd
def xha (e:List UInt8) (b a c d:LA):=(xhb e b a c d).snd
def xg9 (e:List UInt8) (b a c d:LA):=(xha e b a c d).snd
def xg8 (e:List UInt8) (b a c d:LA):=(xg9 e b a c d).snd
def xg7 (e:List UInt8) (b a c d:LA):=(xg8 e b a c d).snd
def xg6 (e:List UInt8) (b a c d:LA):=(xg7 e b a c d).snd
def xg5 (e:List UInt8) (b a c d:LA):=Iter xbj (0,(xha e b a c d).fst,(xg9 e b a c d).fst,(xg8 e b a c d).fst,(xg7 e b a c d).fst,xg6 e b a c d)
def xg4 (e:List UInt8) (b a c d:LA):=(xg5 e b a c d).getD (false,0,())
def xhQ {T:Type} (e:List UInt8) (c a b d:LA) (δ:T) (κ:Int->T):T:=br (decide ((↑b.length:Int)>4)) (κ (5)) (br ((xhd e c a b d).isSome) (br ((xhc e c a b d).fst) (κ ((xhb e c a b d).fst.fst)) (br (decide ((↑(xg6 e c a b d).length:Int)>4)) (κ (5)) (br ((xg5 e c a b d).isSome) (br ((xg4 e c a b d).fst) (κ ((xg4 e c a b d).snd.fst)) (κ (0))) δ))) δ)
def xdc (e:List UInt8) (b a c d:LA):=xhQ e b a c d none some
def xEw:EO:=xwB.f Tryz.func79 60 0 [] [(4,xfo.lp),(12,xi9.lp)] (lks (lkC xfo.ok (lkC xi9.ok lkN))) (u1 (xJM (u5 (sEq pStr) (uL 3) (uL 1) (uL 2) (uL 7)))) (fun ((e,b,a,c,d,_),_) _=>xhQ e b a c d) (fun _ p=>AV.int .i64 p) 0
def xnc {T:Type} (e:List UInt8) (b a c d:LA) (δ:T) (κ:Int->T):T:=br ((xfP e).isSome) (br (!(xfP e).getD false) (κ (1)) (br ((xfw e b a c d).isSome) (br ((xfw e b a c d).getD 0==0) (br ((xmN e b a c d).isSome) (br ((xmN e b a c d).getD 0==0) (br ((xdc e b a c d).isSome) (κ ((xdc e b a c d).getD 0)) δ) (κ ((xmN e b a c d).getD 0))) δ) (br ((xfw e b a c d).getD 0==0) (br ((xdc e b a c d).isSome) (κ ((xdc e b a c d).getD 0)) δ) (κ ((xfw e b a c d).getD 0)))) δ)) δ
def xmA (e:List UInt8) (b a c d:LA):=xnc e b a c d none some
def xwl:LA->Option (Bool×AV):=fnO (u1 (xJM (u5 (sEq pStr) (uL 3) (uL 1) (uL 2) (uL 7)))) (fun ((e,b,a,c,d,_),_) _=>xnc e b a c d) (fun _ p=>AV.int .i64 p) 0
theorem xwk:OcOk P0 xJt 49 xwl:=fnC xEw.ok Tryz.func49 19 0 [] [] lk0
def xFP:EO:=xFH.w xqZ
def xFQ:EO:=xFP.w xwk
def xBK:EO:=xFQ.w xqx
def xgx (a:LA) (i:Int):=ixI a i
def xka (a:LA) (i:Int):=xjH (gC a i 0).toInt (gC a i 1).toInt (gC a i 2).toStr
def xh3 {T:Type} (a b:LA) (i:Int) (δ:T) (κl:(Int)->T) (κr:(Bool×(Bool)×(Unit))->T):T:=br (decide (i<a.length)) (br (xgx a i) (br (ixT a i 3 [Sh.int .i64,Sh.int .i64,Sh.str] 0) (br ((xka a i).isSome) (br (!(xka a i).getD false) (κr (true,(false),())) (br (xgx a i) (br (ixS a i (Sh.int .i64) 0) (br ((gC a i 0).toInt != 0) (br (xgx a i) (br (ixS a i (Sh.int .i64) 0) (br (ixI b i) (br (ixS b i (Sh.int .i64) 0) (br ((gC a i 0).toInt != (gC b i 0).toInt) (κr (true,(false),())) (κl (i64.wrap (i+1)))) δ) δ) δ) δ) (κl (i64.wrap (i+1)))) δ) δ)) δ) δ) δ) (κr (false,false,()))
def xbW (b a:LA):StT (Int) (Bool×(Bool)×(Unit)):=fun (i)=>xh3 b a i none inL inR
def xom:=xBK.l 43 0 [] [] Tryz.f80 0 lk0 [0,1,5] [4] [] (q3 (qL 3) (qL 1) qI) xJw (fun (b,a,i,_) _=>(xbW b a,(i),fun p=>(.node p.1 (.leaf .ret [AV.bool p.2.1] []) (.leaf (.exit 0) [.top] [])))) (false,false,()) fun (b,a,_,_) _ (i)=>(((b,a,i,()),()),xh3 b a i none)
def xon {T:Type} (b a:LA) (δ:T) (κ:Bool->T):T:=br ((↑b.length:Int) != (↑a.length:Int)) (κ (false)) (br ((Iter (xbW b a) 0).isSome) (br (((Iter (xbW b a) 0).getD (false,false,())).fst) (κ (((Iter (xbW b a) 0).getD (false,false,())).snd.fst)) (κ (true))) δ)
def xnL (b a:LA):=xon b a none some
def xFI:EO:=xBK.f Tryz.func80 43 0 [] [(4,xom.lp)] (lk1 xom.ok) (u2 (uL 3) (uL 1)) (fun (b,a,_) _=>xon b a) (fun _ p=>AV.bool p) false
def xt0 (k:Int):Bool:=(br (k==1) ((true)) (br (k==2) ((true)) ((k==3))))
def xyF {T:Type} (k:Int) (δ:T) (κ:Bool->T):T:=br (k==1) (κ (true)) (br (k==2) (κ (true)) (κ (k==3)))
def xBw:EO:=xFI.fT Tryz.func109 13 0 [] [] lk0 (fun (k,_)=>xyF k none) (u1 uI) (fun (k,_)=>xt0 k) (fun _ p=>(AV.bool p))
def xhe {T:Type} (l:LA) (i:Int) (δ:T) (κl:(Int)->T) (κr:(Bool×(Bool)×(Unit))->T):T:=br (decide (i<l.length)) (br (ixI l i) (br (ixS l i (Sh.int .i64) 0) (br (!xt0 (gC l i 0).toInt) (κr (true,(false),())) (κl (i64.wrap (i+1)))) δ) δ) (κr (false,false,()))
def xbM (l:LA):StT (Int) (Bool×(Bool)×(Unit)):=fun (i)=>xhe l i none inL inR
def xnu:=xBw.l 16 0 [] [] Tryz.f81 0 lk0 [0,3] [2] [] (q2 (qL 1) qI) xJw (fun (l,i,_) _=>(xbM l,(i),fun p=>(.node p.1 (.leaf .ret [AV.bool p.2.1] []) (.leaf (.exit 0) [.top] [])))) (false,false,()) fun (l,_,_) _ (i)=>(((l,i,()),()),xhe l i none)
def xnh {T:Type} (l:LA) (δ:T) (κ:Bool->T):T:=br ((Iter (xbM l) 0).isSome) (br (((Iter (xbM l) 0).getD (false,false,())).fst) (κ (((Iter (xbM l) 0).getD (false,false,())).snd.fst)) (κ (true))) δ
def xpK (l:LA):=xnh l none some
def xBy:EO:=xBw.f Tryz.func81 16 0 [] [(2,xnu.lp)] (lk1 xnu.ok) (u1 (uL 1)) (fun (l,_) _=>xnh l) (fun _ p=>AV.bool p) false
def xhf {T:Type} (i:Int) (b a:LA) (δ:T) (κl:(Int×LA×LA)->T) (κr:(Bool×(Bool×LA×LA)×(LA×LA))->T):T:=br (decide (i<a.length)) (br (ixI a i) (br (ixT a i 3 [Sh.int .i64,Sh.int .i64] 1) (br (!xhG (gC a i 1).toInt (gC a i 2).toInt) (κr (true,(false,b,a),([],[]))) (br (ixI a i) (br (ixS a i (Sh.list 3) 0) (br ((xnL (gC a i 0).toList b).isSome) (br (!(xnL (gC a i 0).toList b).getD false) (κr (true,(false,b,a),([],[]))) (κl (i64.wrap (i+1),b,a))) δ) δ) δ)) δ) δ) (κr (false,(false,[],[]),(b,a)))
def xbN:StT (Int×LA×LA) (Bool×(Bool×LA×LA)×(LA×LA)):=fun (i,a,b)=>xhf i a b none inL inR
def xnv:=xBy.l 46 0 [] [] Tryz.f50 0 lk0 [1,3] [1,2] [] (q2 (xJI 0 0 0 0) qI) (q1 (qB 0 2 84 (q1 (xJJ (q2 (qL 1) (qL 3)))))) (fun (_,i,_) (((a,b,_),_),_)=>(xbN,(i,a,b),fun p=>(.node p.1 (.leaf .ret [AV.own 0 0 0 0,AV.bool p.2.1.1] [bF 0 2 84 [AV.agg [AV.list 1 p.2.1.2.1,AV.list 3 p.2.1.2.2]]]) (.leaf (.exit 0) [AV.own 0 0 0 0,.top] [bF 0 2 84 [AV.agg [AV.list 1 p.2.2.1,AV.list 3 p.2.2.2]]])))) (false,(false,[],[]),([],[])) fun _ _ (i,a,b)=>((((),i,()),(((a,b,()),()),())),xhf i a b none)
def xmh (a b:LA):=(Iter xbN (0,a,b)).getD (false,(false,[],[]),[],[])
def xmg (a b:LA):=(xmh a b).snd
def xmf (a b:LA):=(xmg a b).snd.fst
def xmd (a b:LA):=(↑(xmf a b).length:Int)
def xme (a b:LA):=xpK (xmf a b)
def xni {T:Type} (a b:LA) (δ:T) (κ:Bool->T):T:=br ((Iter xbN (0,a,b)).isSome) (br ((xmh a b).fst) (κ ((xmg a b).fst.fst)) (br (decide (xmd a b>0)) (br (decide (xmd a b<=48)) (br ((xme a b).isSome) (κ ((xme a b).getD false)) δ) (κ (false))) (κ (false)))) δ
def xmB (a b:LA):=xni a b none some
def xFJ:EO:=xBy.f Tryz.func50 46 0 [] [(2,xnv.lp)] (lk1 xnv.ok) (u1 (xJM (u2 (uL 1) (uL 3)))) (fun ((a,b,_),_) _=>xni a b) (fun _ p=>AV.bool p) false
def xdR (l:LA) (i:Int):=ixI l i
def xje {T:Type} (l a:LA) (i:Int) (δ:T) (κl:(LA×Int)->T) (κr:(LA)->T):T:=br (decide (i<l.length)) (br (xdR l i) (br (ixT l i 2 [Sh.int .i64,Sh.int .i64] 0) (br (xhG (gC l i 0).toInt (gC l i 1).toInt) (br (xdR l i) (br (ixS l i (Sh.int .i64) 0) (br ((xe6 a (gC l i 0).toInt).isSome) (br (xdR l i) (br (ixS l i (Sh.int .i64) 1) (br ((xe6 ((xe6 a (gC l i 0).toInt).getD []) (gC l i 1).toInt).isSome) (κl ((xe6 ((xe6 a (gC l i 0).toInt).getD []) (gC l i 1).toInt).getD [],i64.wrap (i+1))) δ) δ) δ) δ) δ) δ) (κl (a,i64.wrap (i+1)))) δ) δ) (κr (a))
def xc3 (l:LA):StT (LA×Int) (LA):=fun (a,i)=>xje l a i none inL inR
def xp5 {T:Type} (l:LA) (δ:T) (κ:LA->T):T:=br ((Iter (xc3 l) ([],0)).isSome) (κ ((Iter (xc3 l) ([],0)).getD [])) δ
def xok (l:LA):=xp5 l none some
def xhP {T:Type} (l:LA) (t i:Int) (δ:T) (κl:(Int)->T) (κr:(Bool×(Bool)×(Unit))->T):T:=br (decide (i<l.length)) (br (ixI l i) (br (ixT l i 2 [Sh.int .i64,Sh.int .i64] 0) (br (xlV (gC l i 0).toInt (gC l i 1).toInt t) (κr (true,(true),())) (κl (i64.wrap (i+1)))) δ) δ) (κr (false,false,()))
def xbf (l:LA) (t:Int):StT (Int) (Bool×(Bool)×(Unit)):=fun (i)=>xhP l t i none inL inR
def xoi {T:Type} (l:LA) (t:Int) (δ:T) (κ:Bool->T):T:=br ((Iter (xbf l t) 0).isSome) (br (((Iter (xbf l t) 0).getD (false,false,())).fst) (κ (((Iter (xbf l t) 0).getD (false,false,())).snd.fst)) (κ (false))) δ
def xe1 (l:LA) (t:Int):=xoi l t none some
def xc6 (c:Int) (a b:Bool):Bool:=(br (c==1) (br (a) ((b)) ((false))) (br (c==2) (br (a) ((true)) ((b))) (br (c==3) (br (a) ((!b)) ((false))) (br (!a) ((!b)) ((false))))))
def xc4 (a:LA) (i:Int):=decide (0<=i64.wrap (i - 1))&&decide (i64.wrap (i - 1)<(↑a.length:Int))
def xc5 (a:LA) (i:Int):=decide ((i64.wrap (i - 1)).toNat<a.length)&&xIL (Sh.int .i64) ((a.getD (i64.wrap (i - 1)).toNat .top).cells.getD 0 .top)
def xa6 (a:LA) (i:Int):=((a.getD (i64.wrap (i - 1)).toNat .top).cells.getD 0 .top).toInt
def xeK (c:LA) (b:Nat) (i:Int) (a:LA):=(xk7 b (xa6 c i) (gC c i 0).toInt a).getD (false,(0,[],[]),0,[])
def xeI (c:LA) (b:Nat) (i:Int) (a:LA):=(xeK c b i a).fst
def xeJ (c:LA) (b:Nat) (i:Int) (a:LA):=(xeK c b i a).snd
def xeG (c:LA) (b:Nat) (i:Int) (a:LA):=(xeJ c b i a).fst
def xeH (c:LA) (b:Nat) (i:Int) (a:LA):=(xeJ c b i a).snd
def xfi {T:Type} (f:Int) (a b e:LA) (d:Nat) (i:Int) (c:LA) (δ:T) (κl:(Nat×Int×LA)->T) (κr:(Nat×LA)->T):T:=br (decide (i<e.length)) (br (xc4 e i) (br (xc5 e i) (br ((xe1 a (xa6 e i)).isSome) (br (xc4 e i) (br (xc5 e i) (br ((xe1 b (xa6 e i)).isSome) (br (xc6 f ((xe1 a (xa6 e i)).getD false) ((xe1 b (xa6 e i)).getD false)) (br (xc4 e i) (br (xc5 e i) (br (ixI e i) (br (ixS e i (Sh.int .i64) 0) (br ((xk7 d (xa6 e i) (gC e i 0).toInt c).isSome) (κl (br (xeI e d i c) (xeG e d i c).fst (xeH e d i c).fst,i64.wrap (i+1),br (xeI e d i c) (xeG e d i c).snd.snd (xeH e d i c).snd)) δ) δ) δ) δ) δ) (κl (d,i64.wrap (i+1),c))) δ) δ) δ) δ) δ) δ) (κr (d,c))
def xbJ (e:Int) (a b f:LA):StT (Nat×Int×LA) (Nat×LA):=fun (d,i,c)=>xfi e a b f d i c none inL inR
def xeq (a b:LA):Nat:=1+a.length+b.length
def xjk (a b:LA):LA:=[AV.agg [AV.int .i64 0,AV.int .i64 1099511627776]]++a++b
def xjj (a b:LA):=xok (List.take (xeq a b) (List.drop 0 (xjk a b)))
def xji (c:Int) (a b:LA):=Iter (xbJ c a b ((xjj a b).getD [])) (0,1,[])
def xjh (c:Int) (a b:LA):=(xji c a b).getD (0,[])
def xjf (c:Int) (a b:LA):=(xjh c a b).snd
def xjg (c:Int) (a b:LA):=(xjh c a b).fst
def xol {T:Type} (c:Int) (a b:LA) (δ:T) (κ:LA->T):T:=br (decide ((1+a.length)*16<=140737488355328)&&decide (1+a.length<=4611686018427387904)) (br (1+a.length==([AV.agg [AV.int .i64 0,AV.int .i64 1099511627776]]++a).length&&(decide (xeq a b*16<=140737488355328)&&decide (xeq a b<=4611686018427387904))) (br (decide (0+xeq a b<=(xjk a b).length)&&true) (br ((xjj a b).isSome) (br ((xji c a b).isSome) (br (decide (0+xjg c a b<=(xjf c a b).length)&&true) (κ (List.take (xjg c a b) (List.drop 0 (xjf c a b)))) δ) δ) δ) δ) δ) δ
def xix (c:Int) (a b:LA):=xol c a b none some
def xns {T:Type} (a b:LA) (δ:T) (κ:LA->T):T:=br ((xix 1 a b).isSome) (κ ((xix 1 a b).getD [])) δ
def xpc (a b:LA):=xns a b none some
def xli {T:Type} (e:List UInt8) (b a c d l:LA) (δ:T) (κ:Bool->T):T:=br ((xmA e b a c d).isSome) (br ((xmA e b a c d).getD 0==0) (br ((xf9 e b a c d).isSome) (br ((xmB ((xf9 e b a c d).getD []) l).isSome) (κ ((xmB ((xf9 e b a c d).getD []) l).getD false)) δ) δ) (κ (false))) δ
def xjS (e:List UInt8) (b a c d l:LA):=xli e b a c d l none some
def xFO:EO:=xFJ.f Tryz.func28 15 0 [] [] lk0 (u2 (xJM (u5 (sEq pStr) (uL 3) (uL 1) (uL 2) (uL 7))) (uL 3)) (fun ((e,b,a,c,d,_),l,_) _=>xli e b a c d l) (fun _ p=>AV.bool p) false
def xFr:EO:=xBt.w xyK
def xa2 (r:LA) (e:List UInt8) (b a c d:LA):=(xfA ((xc8 e b a c d r).getD [])).getD []
def xkO (r:LA) (f t:Int) (e:List UInt8) (b a c d g:LA):=decide ((xa2 r e b a c d).length<=4611686018427387904)
def xdE (r:LA) (f:List UInt8) (b a c d e:LA):=((e.getD (putIx e (xa2 r f b a c d)) .top).cells.getD 1 .top).toList.length
def xnE (r:LA) (f t:Int) (g:List UInt8) (b a c d e:LA):=((e.getD (putIx e (xa2 r g b a c d)) .top).cells.getD 1 .top).toList++[AV.agg [AV.int .i64 f,AV.int .i64 t,AV.int .i64 1]]
def xkP (r:LA) (f:List UInt8) (c a d e b:LA):=b.set (putIx b (xa2 r f c a d e)) (AV.agg (List.take 1 (b.getD (putIx b (xa2 r f c a d e)) .top).cells++[AV.int .i64 (↑(xdE r f c a d e b):Int)]++List.drop 2 (b.getD (putIx b (xa2 r f c a d e)) .top).cells))
def xiN (r:LA) (e:List UInt8) (b a c d f:LA):=xdE r e b a c d f+1
def xo5 {T:Type} (r:LA) (f t:Int) (g:List UInt8) (b a c d e:LA) (δ:T) (κ:LA->T):T:=br ((xc8 g b a c d r).isSome) (br ((xfA ((xc8 g b a c d r).getD [])).isSome) (br (xkO r f t g b a c d e) (br (xJg e (xa2 r g b a c d)) (br (xJr 3 ((e.getD (putIx e (xa2 r g b a c d)) .top).cells.getD 1 .top)) (br (decide (putIx e (xa2 r g b a c d)<e.length)&&(xJr 3 ((e.getD (putIx e (xa2 r g b a c d)) .top).cells.getD 1 .top)&&((e.getD (putIx e (xa2 r g b a c d)) .top).cells.length==2&&(2*xdE r g b a c d e==2*xdE r g b a c d e&&(xdE r g b a c d e==xdE r g b a c d e&&(xdE r g b a c d e==xdE r g b a c d e&&(decide (xiN r g b a c d e*24<=140737488355328)&&decide (xiN r g b a c d e<=4611686018427387904)))))))) (br (xiN r g b a c d e==(xnE r f t g b a c d e).length&&(decide ((xkP r g b a c d e).length<4611686018427387904)&&(xkO r f t g b a c d e&&deadR (xkP r g b a c d e) (xa2 r g b a c d) (xiN r g b a c d e)))) (κ (xI2 (xkP r g b a c d e) (xa2 r g b a c d) (AV.list 3 (xnE r f t g b a c d e)))) δ) δ) δ) (br (decide (e.length<4611686018427387904)&&(xkO r f t g b a c d e&&deadR e (xa2 r g b a c d) 1)) (κ (xI2 e (xa2 r g b a c d) (AV.list 3 [AV.agg [AV.int .i64 f,AV.int .i64 t,AV.int .i64 1]]))) δ)) δ) δ) δ
def crowds1 (r:LA) (f t:Int) (e:List UInt8) (b a c d g:LA):=xo5 r f t e b a c d g none some
def xmF:EO:=xFr.fM Tryz.func52 20 1 [1000058,8000000] [] lk0 (u3 (xJM (u3 (uL 3) uI uI)) (sEq (xJO 5 0 0 (q1 (xJJ (q5 pStr (qL 3) (qL 1) (qL 2) (qL 7)))))) (sEq (xI9 (1099511627776:FuncId) (q1 (xJI 0 0 0 0))))) (q1 (qB 0 2 1208926202420975661744128 xJz)) (fun ((r,f,t,_),((e,b,a,c,d,_),_),(_,_),_) (g,_) _=>xo5 r f t e b a c d g) (fun _ _ p=>(AV.tuple [],([bF 0 2 1208926202420975661744128 p]:List Box))) []
end Go.Sim.M
