/- Part 13 of the proof of the law. -/
import Derived.Test.YtcekkkdjdfiipaaGreatDoorUW12
import Derived.StillTailTactics
set_option linter.unusedVariables false
set_option linter.unusedSimpArgs false
set_option maxRecDepth 100000
noncomputable section
namespace Go.Sim.M
abbrev TyE:Type:=Fin 1099511627777×Int×Int
def intsE (x:TyE):List Int:=[(x.1.val:Int),x.2.1,x.2.2]
def cmpE (x y:TyE):Int:=(x.1.val:Int) - (y.1.val:Int)
end Go.Sim.M
namespace Go.Proofs
open Go.RowKit Go.Sim Go.Sim.M Go.Sort
set_option maxHeartbeats 1000000 in
theorem Tryz.walkE (a b c a' b' c' r:Int) (hr:IntKind.i64.wrap (a - a')=r) (W:World):Calls Tryz.prog 116 #[.agg #[.int .i64 a,.int .i64 b,.int .i64 c],.agg #[.int .i64 a',.int .i64 b',.int .i64 c']] W fun e w'=>e=.returned (.int .i64 r)/\∃ q os',w'=Sort.grow (W.drewN q) os':=by
 go_enter Tryz.func116,Tryz.ntmps116
 go_wp2
 go_ret
 subst hr;exact ⟨rfl,0,_,by rw [alloc_eq_grow,alloc_eq_grow,grow_grow];rfl⟩
end Go.Proofs
namespace Go.Sim.M
open Go.RowKit Go.Proofs Go.Sort
def isE:AV->Bool
 | .agg [.int .i64 a,.int .i64 _,.int .i64 _]=>decide (0<=a)&&decide (a<=1099511627776)
 | _=>false
def decE:AV->TyE
 | .agg [.int _ a,.int _ b,.int _ c]=>(Fin.ofNat 1099511627777 a.toNat,b,c)
 | _=>default
noncomputable def srtE (xs:List AV):List AV:=(pdqL cmpE (xs.map decE)).map (encI intsE)
theorem xFb {x:AV} (h:isE x=true):encI intsE (decE x)=x:=by
 unfold isE at h;split at h
 . rename_i a b c;simp only [Bool.and_eq_true,decide_eq_true_eq] at h;have:a.toNat % 1099511627777=a.toNat:=Nat.mod_eq_of_lt (by omega)
   simp only [decE,encI,intsE,List.map_cons,List.map_nil,Fin.ofNat,this,Int.toNat_of_nonneg h.1]
 . simp at h
theorem xDM {xs:List AV} (h:xs.all isE=true):(xs.map decE).map (encI intsE)=xs:=by
 rw [List.map_map]
 conv=>rhs;rw [<-List.map_id xs]
 refine List.map_congr_left fun x hx=>?_
 exact xFb (List.all_eq_true.1 h x hx)
theorem ltE (x y:TyE):ltOf cmpE x y=decide (x.1.val<y.1.val):=by
 unfold ltOf cmpE;by_cases h:x.1.val<y.1.val
 . rw [decide_eq_true h,decide_eq_true (by omega)]
 . rw [decide_eq_false h,decide_eq_false (by omega)]
theorem swoE:SWO (ltOf cmpE) where
 irrefl x:=by rw [ltE];simp
 trans x y z h1 h2:=by rw [ltE] at *;simp at *;omega
 ntrans x y z h1 h2:=by rw [ltE] at *;simp at *;omega
noncomputable def xwk:List AV->List Box->Option (Bool×AV×List Box)
 | [.osl (.b 0) ver 0 n,.func g []],[⟨ver',3,ty,xs,false,true⟩]=>match Nat.beq g 116&&Nat.beq ty 132 with
  | true=>some (Nat.beq ver ver'&&(Nat.beq n xs.length&&(decide (n<4611686018427387904)&&xs.all isE)),.tuple [],[⟨ver',3,132,srtE xs,false,true⟩])
  | false=>none
 | _,_=>none
theorem xG6:OmOk Tryz.prog xLn 115 xwk:=fun Q H r H' h=>by
 unfold xwk at h;split at h
 . rename_i ver n g O ty xs;split at h
   case h_2=>simp at h
   rename_i hg;simp only [Bool.and_eq_true] at hg;obtain rfl:=Nat.eq_of_beq_eq_true hg.1;obtain rfl:=Nat.eq_of_beq_eq_true hg.2;simp only [Option.some.injEq,Prod.mk.injEq,Bool.and_eq_true,decide_eq_true_eq] at h;obtain ⟨⟨h1,h2,h3,h4⟩,rfl,rfl⟩:=h;obtain rfl:=Nat.eq_of_beq_eq_true h1;obtain rfl:=Nat.eq_of_beq_eq_true h2;have q:∃ ti,xKG Tryz.prog 132=some ti/\ti.sz=3/\ti.agg=true:=by
    have h:(match xKG Tryz.prog 132 with|some ti=>(ti.sz==3)&&ti.agg|none=>false)=true:=by kernel_rfl
    split at h
    . rename_i ti q;simp only [Bool.and_eq_true,beq_iff_eq] at h;exact ⟨ti,q,h.1,h.2⟩
    . simp at h
   obtain ⟨ti,q,hz,ha⟩:=q;have J:=xsl (P:=Tryz.prog) (Inv:=xLn) Tryz.srl115 3 (by decide) (fun w=>by rw [<-ha];exact xlc q w) (fun w=>by rw [<-hz];exact xcZ q w)
    intsE (fun _=>rfl) cmpE swoE 116 rfl (xeo Tryz.func115 rfl (by kernel_rfl)) (xo1 (xeo Tryz.func116 rfl (by kernel_rfl)))
    (fun x y W=>Tryz.walkE _ _ _ _ _ _ (cmpE x y) (by
     have:=x.1.isLt;have:=y.1.isLt;unfold cmpE;exact xec (by omega) (by omega)) W)
    ver 132 rfl (xs.map decE) (by simpa using h3)
   rw [List.length_map,xDM h4] at J;exact J
 . simp at h
end Go.Sim.M
namespace Go.Sim.M
abbrev TyS:Type:=Fin 1099511627777×Int
def intsS (x:TyS):List Int:=[(x.1.val:Int),x.2]
def cmpS (x y:TyS):Int:=(x.1.val:Int) - (y.1.val:Int)
end Go.Sim.M
namespace Go.Proofs
open Go.RowKit Go.Sim Go.Sim.M Go.Sort
set_option maxHeartbeats 1000000 in
theorem Tryz.walkS (a b a' b' r:Int) (hr:IntKind.i64.wrap (a - a')=r) (W:World):Calls Tryz.prog 84 #[.agg #[.int .i64 a,.int .i64 b],.agg #[.int .i64 a',.int .i64 b']] W fun e w'=>e=.returned (.int .i64 r)/\∃ q os',w'=Sort.grow (W.drewN q) os':=by
 go_enter Tryz.func84,Tryz.ntmps84
 go_wp2
 go_ret
 subst hr;exact ⟨rfl,0,_,by rw [alloc_eq_grow,alloc_eq_grow,grow_grow];rfl⟩
end Go.Proofs
namespace Go.Sim.M
open Go.RowKit Go.Proofs Go.Sort
def isS:AV->Bool
 | .agg [.int .i64 a,.int .i64 _]=>decide (0<=a)&&decide (a<=1099511627776)
 | _=>false
def decS:AV->TyS
 | .agg [.int _ a,.int _ b]=>(Fin.ofNat 1099511627777 a.toNat,b)
 | _=>default
noncomputable def srtS (xs:List AV):List AV:=(pdqL cmpS (xs.map decS)).map (encI intsS)
theorem xFc {x:AV} (h:isS x=true):encI intsS (decS x)=x:=by
 unfold isS at h;split at h
 . rename_i a b;simp only [Bool.and_eq_true,decide_eq_true_eq] at h;have:a.toNat % 1099511627777=a.toNat:=Nat.mod_eq_of_lt (by omega)
   simp only [decS,encI,intsS,List.map_cons,List.map_nil,Fin.ofNat,this,Int.toNat_of_nonneg h.1]
 . simp at h
theorem xDN {xs:List AV} (h:xs.all isS=true):(xs.map decS).map (encI intsS)=xs:=by
 rw [List.map_map]
 conv=>rhs;rw [<-List.map_id xs]
 refine List.map_congr_left fun x hx=>?_
 exact xFc (List.all_eq_true.1 h x hx)
theorem ltS (x y:TyS):ltOf cmpS x y=decide (x.1.val<y.1.val):=by
 unfold ltOf cmpS;by_cases h:x.1.val<y.1.val
 . rw [decide_eq_true h,decide_eq_true (by omega)]
 . rw [decide_eq_false h,decide_eq_false (by omega)]
theorem swoS:SWO (ltOf cmpS) where
 irrefl x:=by rw [ltS];simp
 trans x y z h1 h2:=by rw [ltS] at *;simp at *;omega
 ntrans x y z h1 h2:=by rw [ltS] at *;simp at *;omega
noncomputable def xwl:List AV->List Box->Option (Bool×AV×List Box)
 | [.osl (.b 0) ver 0 n,.func g []],[⟨ver',2,ty,xs,false,true⟩]=>match Nat.beq g 84&&Nat.beq ty 121 with
  | true=>some (Nat.beq ver ver'&&(Nat.beq n xs.length&&(decide (n<4611686018427387904)&&xs.all isS)),.tuple [],[⟨ver',2,121,srtS xs,false,true⟩])
  | false=>none
 | _,_=>none
theorem xG7:OmOk Tryz.prog xLn 83 xwl:=fun Q H r H' h=>by
 unfold xwl at h;split at h
 . rename_i ver n g O ty xs;split at h
   case h_2=>simp at h
   rename_i hg;simp only [Bool.and_eq_true] at hg;obtain rfl:=Nat.eq_of_beq_eq_true hg.1;obtain rfl:=Nat.eq_of_beq_eq_true hg.2;simp only [Option.some.injEq,Prod.mk.injEq,Bool.and_eq_true,decide_eq_true_eq] at h;obtain ⟨⟨h1,h2,h3,h4⟩,rfl,rfl⟩:=h;obtain rfl:=Nat.eq_of_beq_eq_true h1;obtain rfl:=Nat.eq_of_beq_eq_true h2;have q:∃ ti,xKG Tryz.prog 121=some ti/\ti.sz=2/\ti.agg=true:=by
    have h:(match xKG Tryz.prog 121 with|some ti=>(ti.sz==2)&&ti.agg|none=>false)=true:=by kernel_rfl
    split at h
    . rename_i ti q;simp only [Bool.and_eq_true,beq_iff_eq] at h;exact ⟨ti,q,h.1,h.2⟩
    . simp at h
   obtain ⟨ti,q,hz,ha⟩:=q;have J:=xsl (P:=Tryz.prog) (Inv:=xLn) Tryz.srl83 2 (by decide) (fun w=>by rw [<-ha];exact xlc q w) (fun w=>by rw [<-hz];exact xcZ q w)
    intsS (fun _=>rfl) cmpS swoS 84 rfl (xeo Tryz.func83 rfl (by kernel_rfl)) (xo1 (xeo Tryz.func84 rfl (by kernel_rfl)))
    (fun x y W=>Tryz.walkS _ _ _ _ (cmpS x y) (by
     have:=x.1.isLt;have:=y.1.isLt;unfold cmpS;exact xec (by omega) (by omega)) W)
    ver 121 rfl (xs.map decS) (by simpa using h3)
   rw [List.length_map,xDN h4] at J;exact J
 . simp at h
end Go.Sim.M
namespace Go.Sim.M
open Go.RowKit Go.Proofs
noncomputable def E1:Env:=(xF6.E.withM 83 xwl).withM 115 xwk
theorem xF3:xKH Tryz.prog xLn E1:=(xF6.ok.withM xG7).withM xG6
noncomputable def xIG:EO:=EO.mk E1 xF3
end Go.Sim.M
namespace Go.Sim.M
open Go.IntKind (i64 u64 u8)
open Go.RowKit Go.Proofs
def xhl:Env:=E1.fn 29 1 (lsOf []) (xK2 [])
theorem xvE:xKH P0 (xLn.at 1) xhl:=xF3.fn
theorem xtD:LoOk P0 (xLn.at xhl.pin) xhl (Tryz.f85.body.getD .skip):=xhw (by kernel_rfl)
def xom {T:Type} (k:Nat) (a n:Int) (b:LA) (δ:T) (κ:Bool×(Nat×LA)×(Nat×LA)->T):T:=br (rmB k b 1 16) (κ (false,(0,[]),(k+1,b++[AV.agg [AV.int .i64 a,AV.int .i64 n]]))) δ
def xq9 {T:Type} (k:Nat) (b n:Int) (a:LA) (δ:T) (κ:Bool×(Nat×LA)×(Nat×LA)->T):T:=br (decide ((↑k:Int)>0)) (br (decide (0<=i64.wrap ((↑k:Int) - 1))&&decide (i64.wrap ((↑k:Int) - 1)<(↑k:Int))) (br (decide (0+(i64.wrap ((↑k:Int) - 1)).toNat<a.length)&&xKF (Sh.int .i64) ((a.getD (0+(i64.wrap ((↑k:Int) - 1)).toNat) .top).cells.getD 1 .top)) (br (((a.getD (0+(i64.wrap ((↑k:Int) - 1)).toNat) .top).cells.getD 1 .top).toInt==n) (κ (true,(k,a),(0,[]))) (xom k b n a δ κ)) δ) δ) (xom k b n a δ κ)
def xcI (k:Nat) (a n:Int) (b:LA):=xq9 k a n b none some
theorem xBd (k:Nat) (a n:Int) (xs:LA):Enc (fun (p:Bool×(Nat×LA)×(Nat×LA))=>((br p.1 ((AV.osl 0 0 0 p.2.1.1,([⟨0,2,121,p.2.1.2,false,true⟩]:List Box))) ((AV.osl 0 1 0 p.2.2.1,([⟨1,2,121,p.2.2.2,false,true⟩]:List Box)))):(AV×List Box))) (xcI k a n xs) (XFM P0 xhl Tryz.f85 (Tryz.f85.body.getD .skip) [AV.osl (0:Id) 0 0 k,AV.int .i64 a,AV.int .i64 n] [{ ver:=0,sz:=2,ty:=(121:TypeId),xs:=xs,frz:=false,pm:=true }]):=by
 have h:XFM P0 xhl Tryz.f85 (Tryz.f85.body.getD .skip) [AV.osl (0:Id) 0 0 k,AV.int .i64 a,AV.int .i64 n] [{ ver:=0,sz:=2,ty:=(121:TypeId),xs:=xs,frz:=false,pm:=true }]=xq9 k a n xs none (fun (p:Bool×(Nat×LA)×(Nat×LA))=>some ((br p.1 ((AV.osl 0 0 0 p.2.1.1,([⟨0,2,121,p.2.1.2,false,true⟩]:List Box))) ((AV.osl 0 1 0 p.2.2.1,([⟨1,2,121,p.2.2.2,false,true⟩]:List Box)))):(AV×List Box))):=by kernel_rfl
 rw [h];unfold xcI xq9 xom;repeat' (first|refine Enc.br ?_ ?_|exact Enc.none|exact Enc.some rfl)
def xBc:LA->List Box->Option (Bool×AV×List Box):=omOf (xLp (sEq (xLB 0 0 0)) (xLp (sEq (pInt .i64)) (xLp (sEq (pInt .i64)) xLr))) (xLo (xLE 0 2 (121:TypeId) false true xLs) xLq) fun (k,(a,(n,_))) (b,_)=>((xcI k a n b).isSome,(AV.osl 0 1 0 (br ((xcI k a n b).getD (false,(0,[]),(0,[]))).1 ((xcI k a n b).getD (false,(0,[]),(0,[]))).2.1.1 ((xcI k a n b).getD (false,(0,[]),(0,[]))).2.2.1),([⟨1,2,121,(br ((xcI k a n b).getD (false,(0,[]),(0,[]))).1 ((xcI k a n b).getD (false,(0,[]),(0,[]))).2.1.2 ((xcI k a n b).getD (false,(0,[]),(0,[]))).2.2.2),false,true⟩]:List Box)))
theorem xBb:OmOk P0 xLn 85 (xBc):=xtt fun e f j i g=>by
 obtain ⟨k,⟨b,⟨n,_⟩⟩⟩:=e;obtain ⟨h,_⟩:=f;obtain ⟨c,a⟩:=Prod.mk.inj g;have hx:=xBd _ _ _ _ _ (xa6 (d:=(false,(0,[]),(0,[]))) c);revert hx a;generalize ((xcI k b n h).getD (false,(0,[]),(0,[])))=p;intro a hx;obtain ⟨rfl,rfl⟩:=Prod.mk.inj a;obtain ⟨t,⟨l,m⟩,o,q⟩:=p;have hg:GoodM P0 xLn 85 _ _ _ _:=xqd (p:=xhl.pin) (xqc xKQ (xKR P0 _) rfl xvE rfl Tryz.func85 rfl (by kernel_rfl) xtD hx)
 cases t
 . exact hg
 . exact GoodM.bump1 rfl (by decide) hg
def xsw:EO:=xIG.wM xBb
def xkv {T:Type} (d:LA) (e:Int) (b:Nat) (c:Int) (a:LA) (δ:T) (κl:(Nat×Int×LA)->T) (κr:(Nat×LA)->T):T:=br (decide (c<e)) (br (ixI d c) (br (ixT d c 3 [Sh.int .i64,Sh.int .i64,Sh.int .i64] 0) (br (xdr (gC d c 0).toInt (gC d c 1).toInt) (br (rmB b a 2 16) (κl (b+2,i64.wrap (c+1),a++[AV.agg [AV.int .i64 (gC d c 0).toInt,AV.int .i64 (gC d c 2).toInt],AV.agg [AV.int .i64 (gC d c 1).toInt,AV.int .i64 (i64.wrap (0 - (gC d c 2).toInt))]])) δ) (κl (b,i64.wrap (c+1),a))) δ) δ) (κr (b,a))
def xd9 (c:LA) (d:Int):StT (Nat×Int×LA) (Nat×LA):=fun (b,e,a)=>xkv c d b e a none inL inR
def xg9:=xsw.l 106 0 [] [] Tryz.f54 0 lk0 [3,10,11,12] [3] [(3,2,121)] (q4 (xLB 0 0 0) (qL 3) qI qI) (q1 (qB 0 2 121 xLs)) (fun (b,c,d,e,_) (a,_)=>(xd9 c d,(b,e,a),fun p=>(.leaf (.exit 0) [AV.osl 0 0 0 p.1] [bF 0 2 121 p.2]))) (0,[]) fun (_,c,d,_,_) _ (b,e,a)=>(((b,c,d,e,()),(a,())),xkv c d b e a none)
def xrp (i:Int) (a:LA):=decide (0+i.toNat<a.length)
def xsm {T:Type} (b e:Nat) (d i:Int) (a c:LA) (δ:T) (κl:(Int×Int×LA×LA)->T) (κr:(Int×Int×LA×LA)->T):T:=br (decide (i<(↑b:Int))) (br (decide (0<=i)&&decide (i<(↑b:Int))) (br (xrp i a&&xKF (Sh.int .i64) ((a.getD (0+i.toNat) .top).cells.getD 0 .top)) (br (((a.getD (0+i.toNat) .top).cells.getD 0 .top).toInt==0) (br (decide (0<=i)&&decide (i<(↑b:Int))) (br (xrp i a&&xKF (Sh.int .i64) ((a.getD (0+i.toNat) .top).cells.getD 1 .top)) (κl (i64.wrap (d+((a.getD (0+i.toNat) .top).cells.getD 1 .top).toInt),i64.wrap (i+1),a,c)) δ) δ) (κr (d,i,a,c))) δ) δ) (κr (d,i,a,c))
def xhW (b d:Nat):StT (Int×Int×LA×LA) (Int×Int×LA×LA):=fun (e,i,a,c)=>xsm b d e i a c none inL inR
def xjD:=xsw.l 106 0 [] [(3,xg9.lp)] Tryz.f54 1 lk0 [3,6,7,8] [3,6,7,8] [(3,2,121),(6,2,121)] (q4 (xLB 0 0 0) (xLB 1 0 0) qI qI) (q2 (qB 0 2 121 xLs) (qB 0 2 121 xLs)) (fun (a,c,e,i,_) (b,d,_)=>(xhW a c,(e,i,b,d),fun p=>(.leaf (.exit 2) [AV.osl 0 0 0 a,AV.osl 1 0 0 c,AV.int .i64 p.1,AV.int .i64 p.2.1] [bF 0 2 121 p.2.2.1,bF 0 2 121 p.2.2.2]))) (0,0,[],[]) fun (a,c,_,_,_) _ (e,i,b,d)=>(((a,c,e,i,()),(b,d,())),xsm a c e i b d none)
def xhk (i:Int) (a:LA):=decide (0+i.toNat<a.length)
def xie {T:Type} (b f:Nat) (e d i:Int) (a c:LA) (δ:T) (κl:(Int×Int×LA×LA)->T) (κr:(Int×Int×LA×LA)->T):T:=br (decide (i<(↑b:Int))) (br (decide (0<=i)&&decide (i<(↑b:Int))) (br (xhk i a&&xKF (Sh.int .i64) ((a.getD (0+i.toNat) .top).cells.getD 0 .top)) (br (((a.getD (0+i.toNat) .top).cells.getD 0 .top).toInt==e) (br (decide (0<=i)&&decide (i<(↑b:Int))) (br (xhk i a&&xKF (Sh.int .i64) ((a.getD (0+i.toNat) .top).cells.getD 1 .top)) (κl (i64.wrap (d+((a.getD (0+i.toNat) .top).cells.getD 1 .top).toInt),i64.wrap (i+1),a,c)) δ) δ) (κr (d,i,a,c))) δ) δ) (κr (d,i,a,c))
def xcx (b d:Nat) (e:Int):StT (Int×Int×LA×LA) (Int×Int×LA×LA):=fun (f,i,a,c)=>xie b d e f i a c none inL inR
def xjE:=xsw.l 106 0 [] [(3,xg9.lp),(11,xjD.lp)] Tryz.f54 3 lk0 [3,6,7,8,9] [3,6,7,8,9] [(3,2,121),(6,2,121)] (q5 (xLB 0 0 0) (xLB 1 0 0) qI qI qI) (q2 (qB 0 2 121 xLs) (qB 0 2 121 xLs)) (fun (a,c,f,i,e,_) (b,d,_)=>(xcx a c e,(f,i,b,d),fun p=>(.leaf (.exit 6) [AV.osl 0 0 0 a,AV.osl 1 0 0 c,AV.int .i64 p.1,AV.int .i64 p.2.1,AV.int .i64 e] [bF 0 2 121 p.2.2.1,bF 0 2 121 p.2.2.2]))) (0,0,[],[]) fun (a,c,_,_,e,_) _ (f,i,b,d)=>(((a,c,f,i,e,()),(b,d,())),xie a c e f i b d none)
def xgs (i:Int) (a:LA):=decide (0+i.toNat<a.length)&&xKF (Sh.int .i64) ((a.getD (0+i.toNat) .top).cells.getD 0 .top)
def xeQ (i:Int) (a:LA):=((a.getD (0+i.toNat) .top).cells.getD 0 .top).toInt
def xgt (b d:Nat) (e i:Int) (a c:LA):=Iter (xcx b d (xeQ i a)) (e,i,a,c)
def xhj (b d:Nat) (e i:Int) (a c:LA):=(xgt b d e i a c).getD (0,0,[],[])
def xhh (b d:Nat) (e i:Int) (a c:LA):=(xhj b d e i a c).snd
def xhi (b d:Nat) (e i:Int) (a c:LA):=(xhj b d e i a c).fst
def xhg (b d:Nat) (e i:Int) (a c:LA):=(xhh b d e i a c).snd
def xhf (b c:Nat) (e i:Int) (a d:LA):=xcI c (xeQ i a) (xhi b c e i a d) (xhg b c e i a d).snd
def xhe (b d:Nat) (e i:Int) (a c:LA):=(xhf b d e i a c).getD (false,(0,[]),0,[])
def xhc (b d:Nat) (e i:Int) (a c:LA):=(xhe b d e i a c).fst
def xhd (b d:Nat) (e i:Int) (a c:LA):=(xhe b d e i a c).snd
def xha (b d:Nat) (e i:Int) (a c:LA):=(xhd b d e i a c).fst
def xhb (b d:Nat) (e i:Int) (a c:LA):=(xhd b d e i a c).snd
def xid {T:Type} (b d:Nat) (e i:Int) (a c:LA) (δ:T) (κl:(Nat×Int×Int×LA×LA)->T) (κr:(Nat×LA)->T):T:=br (decide (i<(↑b:Int))) (br (decide (0<=i)&&decide (i<(↑b:Int))) (br (xgs i a) (br (decide (xeQ i a<1099511627776)) (br (decide (0<=i)&&decide (i<(↑b:Int))) (br (xgs i a) (br ((xgt b d e i a c).isSome) (br ((xhf b d e i a c).isSome) (κl (br (xhc b d e i a c) (xha b d e i a c).fst (xhb b d e i a c).fst,xhi b d e i a c,(xhh b d e i a c).fst,(xhg b d e i a c).fst,br (xhc b d e i a c) (xha b d e i a c).snd (xhb b d e i a c).snd)) δ) δ) δ) δ) (κr (d,c))) δ) δ) (κr (d,c))
def xea (b:Nat):StT (Nat×Int×Int×LA×LA) (Nat×LA):=fun (d,e,i,a,c)=>xid b d e i a c none inL inR
def xrq:=xsw.l 106 0 [] [(3,xg9.lp),(11,xjD.lp),(17,xjE.lp)] Tryz.f54 2 (lk1 xjE.ok) [3,6,7,8] [6] [(3,2,121),(6,2,121)] (q4 (xLB 0 0 0) (xLB 1 0 0) qI qI) (q2 (qB 0 2 121 xLs) (qB 0 2 121 xLs)) (fun (b,d,e,i,_) (a,c,_)=>(xea b,(d,e,i,a,c),fun p=>(.leaf (.exit 4) [AV.osl 0 0 0 p.1] [bF 0 2 121 p.2]))) (0,[]) fun (b,_,_,_,_) _ (d,e,i,a,c)=>(((b,d,e,i,()),(a,c,())),xid b d e i a c none)
def xpU (l:LA):=(Iter (xd9 l (↑l.length:Int)) (0,0,[])).getD (0,[])
def xjd (l:LA):=(xpU l).fst
def xmd (l:LA):=(xpU l).snd
def xpT (l:LA):=Iter (xhW (xjd l) 0) (0,0,srtS (xmd l),[])
def xpS (l:LA):=(xpT l).getD (0,0,[],[])
def xpQ (l:LA):=(xpS l).fst
def xpR (l:LA):=(xpS l).snd
def xpP (l:LA):=(xpR l).snd
def xq8 (l:LA):=xcI 0 0 (xpQ l) (xpP l).snd
def xq7 (l:LA):=(xq8 l).getD (false,(0,[]),0,[])
def xq5 (l:LA):=(xq7 l).snd
def xq6 (l:LA):=(xq7 l).fst
def xq3 (l:LA):=(xq5 l).snd
def xq4 (l:LA):=(xq5 l).fst
def xq2 (l:LA):=Iter (xea (xjd l)) (br (xq6 l) (xq4 l).fst (xq3 l).fst,xpQ l,(xpR l).fst,(xpP l).fst,br (xq6 l) (xq4 l).snd (xq3 l).snd)
def xq1 (l:LA):=(xq2 l).getD (0,[])
def xqx (l:LA):=(xq1 l).fst
def xq0 (l:LA):=(xq1 l).snd
def xr2 {T:Type} (l:LA) (δ:T) (κ:LA->T):T:=br ((Iter (xd9 l (↑l.length:Int)) (0,0,[])).isSome) (br ((xjd l).beq (xmd l).length&&(decide (xjd l<4611686018427387904)&&(xmd l).all isS)) (br ((xpT l).isSome) (br ((xq8 l).isSome) (br ((xq2 l).isSome) (br (decide (0+xqx l<=(xq0 l).length)&&true) (κ (List.take (xqx l) (List.drop 0 (xq0 l)))) δ) δ) δ) δ) δ) δ
def xhV (l:LA):=xr2 l none some
def xC9:EO:=xsw.f Tryz.func54 106 0 [] [(3,xg9.lp),(11,xjD.lp),(17,xjE.lp),(15,xrq.lp)] (lks (lkC xg9.ok (lkC xjD.ok (lkC xrq.ok (lkC xjE.ok lkN))))) (u1 (uL 3)) (fun (l,_) _=>xr2 l) (fun _ p=>AV.list 2 p) []
def xaL (l:LA) (n:Int) (a:LA) (e:Int) (d:Nat) (b:Int) (c:LA):=decide ((gC a b 1).toInt<n)
def xav (a:Nat):=decide (0<=i64.wrap ((↑a:Int) - 1))&&decide (i64.wrap ((↑a:Int) - 1)<(↑a:Int))
def xae (a:Nat):Nat:=0+(i64.wrap ((↑a:Int) - 1)).toNat
def xaM (l:LA) (a:Int):=decide (i64.wrap (a+1)<(↑l.length:Int))
def xaw (b:Nat) (a:LA):=decide (xae b<a.length)
def xaA {T:Type} (l d:LA) (b:Nat) (c:Int) (a:LA) (δ:T) (κl:(Nat×Int×LA)->T):T:=br (rmB b a 1 16) (κl (b+1,i64.wrap (c+1),a++[AV.agg [AV.int .i64 (gC d c 0).toInt,AV.int .i64 ((l.getD (i64.wrap (c+1)).toNat .top).cells.getD 0 .top).toInt]])) δ
def xaB {T:Type} (d:LA) (b:Nat) (c:Int) (a:LA) (δ:T) (κl:(Nat×Int×LA)->T):T:=br (rmB b a 1 16) (κl (b+1,i64.wrap (c+1),a++[AV.agg [AV.int .i64 (gC d c 0).toInt,AV.int .i64 1099511627776]])) δ
def xaH {T:Type} (l:LA) (n:Int) (d:LA) (e:Int) (a:Nat) (c:Int) (b:LA) (δ:T) (κl:(Nat×Int×LA)->T) (κr:(Nat×LA)->T):T:=br (decide (c<e)) (br (ixI d c) (br (ixT d c 2 [Sh.int .i64,Sh.int .i64] 0) (br (xaM l c) (br (decide (0<=i64.wrap (c+1))&&xaM l c) (br (decide ((i64.wrap (c+1)).toNat<l.length)&&xKF (Sh.int .i64) ((l.getD (i64.wrap (c+1)).toNat .top).cells.getD 0 .top)) (br (xaL l n d e a c b) (κl (a,i64.wrap (c+1),b)) (br (decide ((↑a:Int)>0)) (br (xav a) (br (xaw a b&&xKF (Sh.int .i64) ((b.getD (xae a) .top).cells.getD 1 .top)) (br (((b.getD (xae a) .top).cells.getD 1 .top).toInt==(gC d c 0).toInt) (br (xav a) (br (xaw a b) (κl (a,i64.wrap (c+1),b.set (xae a) (AV.agg (List.take 1 (b.getD (xae a) .top).cells++[AV.int .i64 ((l.getD (i64.wrap (c+1)).toNat .top).cells.getD 0 .top).toInt]++List.drop 2 (b.getD (xae a) .top).cells)))) δ) δ) (xaA l d a c b δ κl)) δ) δ) (xaA l d a c b δ κl))) δ) δ) (br (xaL l n d e a c b) (κl (a,i64.wrap (c+1),b)) (br (decide ((↑a:Int)>0)) (br (xav a) (br (xaw a b&&xKF (Sh.int .i64) ((b.getD (xae a) .top).cells.getD 1 .top)) (br (((b.getD (xae a) .top).cells.getD 1 .top).toInt==(gC d c 0).toInt) (br (xav a) (br (xaw a b) (κl (a,i64.wrap (c+1),b.set (xae a) (AV.agg (List.take 1 (b.getD (xae a) .top).cells++[AV.int .i64 1099511627776]++List.drop 2 (b.getD (xae a) .top).cells)))) δ) δ) (xaB d a c b δ κl)) δ) δ) (xaB d a c b δ κl)))) δ) δ) (κr (a,b))
def xal (l:LA) (n:Int) (c:LA) (d:Int):StT (Nat×Int×LA) (Nat×LA):=fun (b,e,a)=>xaH l n c d b e a none inL inR
def xmr:=xC9.l 62 0 [] [] Tryz.f53 0 lk0 [0,1,5,10,11,12] [5] [(5,2,50)] (q6 (qL 2) qI (xLB 0 0 0) (qL 2) qI qI) (q1 (qB 0 2 50 xLs)) (fun (l,n,b,c,d,e,_) (a,_)=>(xal l n c d,(b,e,a),fun p=>(.leaf (.exit 0) [AV.osl 0 0 0 p.1] [bF 0 2 50 p.2]))) (0,[]) fun (l,n,_,c,d,_,_) _ (b,e,a)=>(((l,n,b,c,d,e,()),(a,())),xaH l n c d b e a none)
def xk1 (l:LA) (n:Int):=(Iter (xal l n l (↑l.length:Int)) (0,0,[])).getD (0,[])
def xkx (l:LA) (n:Int):=(xk1 l n).fst
def xk0 (l:LA) (n:Int):=(xk1 l n).snd
def xmc {T:Type} (l:LA) (n:Int) (δ:T) (κ:LA->T):T:=br ((Iter (xal l n l (↑l.length:Int)) (0,0,[])).isSome) (br (decide (0+xkx l n<=(xk0 l n).length)&&true) (κ (List.take (xkx l n) (List.drop 0 (xk0 l n)))) δ) δ
def xeU (l:LA) (n:Int):=xmc l n none some
def xy5:EO:=xC9.f Tryz.func53 62 0 [] [(3,xmr.lp)] (lk1 xmr.ok) (u2 (uL 2) uI) (fun (l,n,_) _=>xmc l n) (fun _ p=>AV.list 2 p) []
def xiH {T:Type} (b e:LA) (f:Int) (c:Nat) (a:Int) (d:LA) (δ:T) (κl:(Nat×Int×LA)->T) (κr:(Nat×LA)->T):T:=br (decide (a<f)) (br (decide (0<=a)&&decide (a<e.length)) (br (decide (a.toNat<e.length)&&((e.getD a.toNat .top).cells.length==2&&xKM [Sh.int .i64,Sh.int .i64] (e.getD a.toNat .top).cells 0)) (br (xdr ((e.getD a.toNat .top).cells.getD 0 .top).toInt ((e.getD a.toNat .top).cells.getD 1 .top).toInt) (br (c==d.length&&(decide ((c+2)*24<=140737488355328)&&decide (c+2<=4611686018427387904))) (κl (c+2,i64.wrap (a+1),d++[AV.agg [AV.int .i64 ((e.getD a.toNat .top).cells.getD 0 .top).toInt,AV.int .i64 1,AV.int .i64 0],AV.agg [AV.int .i64 ((e.getD a.toNat .top).cells.getD 1 .top).toInt,AV.int .i64 (-1),AV.int .i64 0]])) δ) (κl (c,i64.wrap (a+1),d))) δ) δ) (κr (c,d))
def xbF (b d:LA) (e:Int):StT (Nat×Int×LA) (Nat×LA):=fun (c,f,a)=>xiH b d e c f a none inL inR
def xkZ:=xy5.l 49 0 [] [] Tryz.f87 0 lk0 [1,5,10,11,12] [1,5] [(5,3,132)] (q5 (qL 2) (xLB 0 0 0) (qL 2) qI qI) (q1 (qB 0 3 132 xLs)) (fun (b,c,d,e,f,_) (a,_)=>(xbF b d e,(c,f,a),fun p=>(.leaf (.exit 0) [AV.list 2 b,AV.osl 0 0 0 p.1] [bF 0 3 132 p.2]))) (0,[]) fun (b,_,d,e,_,_) _ (c,f,a)=>(((b,c,d,e,f,()),(a,())),xiH b d e c f a none)
def xiI {T:Type} (d:LA) (e:Int) (b:Nat) (a:Int) (c:LA) (δ:T) (κl:(Nat×Int×LA)->T) (κr:(Nat×LA)->T):T:=br (decide (a<e)) (br (decide (0<=a)&&decide (a<d.length)) (br (decide (a.toNat<d.length)&&((d.getD a.toNat .top).cells.length==2&&xKM [Sh.int .i64,Sh.int .i64] (d.getD a.toNat .top).cells 0)) (br (xdr ((d.getD a.toNat .top).cells.getD 0 .top).toInt ((d.getD a.toNat .top).cells.getD 1 .top).toInt) (br (b==c.length&&(decide ((b+2)*24<=140737488355328)&&decide (b+2<=4611686018427387904))) (κl (b+2,i64.wrap (a+1),c++[AV.agg [AV.int .i64 ((d.getD a.toNat .top).cells.getD 0 .top).toInt,AV.int .i64 0,AV.int .i64 1],AV.agg [AV.int .i64 ((d.getD a.toNat .top).cells.getD 1 .top).toInt,AV.int .i64 0,AV.int .i64 (-1)]])) δ) (κl (b,i64.wrap (a+1),c))) δ) δ) (κr (b,c))
def xdc (c:LA) (d:Int):StT (Nat×Int×LA) (Nat×LA):=fun (b,e,a)=>xiI c d b e a none inL inR
def xpL:=xy5.l 49 0 [] [(3,xkZ.lp)] Tryz.f87 1 lk0 [5,28,29,30] [5] [(5,3,132)] (q4 (xLB 0 0 0) (qL 2) qI qI) (q1 (qB 0 3 132 xLs)) (fun (b,c,d,e,_) (a,_)=>(xdc c d,(b,e,a),fun p=>(.leaf (.exit 2) [AV.osl 0 0 0 p.1] [bF 0 3 132 p.2]))) (0,[]) fun (_,c,d,_,_) _ (b,e,a)=>(((b,c,d,e,()),(a,())),xiI c d b e a none)
def xku (a b:LA):=(Iter (xbF b a (↑a.length:Int)) (0,0,[])).getD (0,[])
def xkt (a b:LA):=Iter (xdc b (↑b.length:Int)) ((xku a b).fst,0,(xku a b).snd)
def xks (a b:LA):=(xkt a b).getD (0,[])
def xfZ (a b:LA):=(xks a b).fst
def xfx (a b:LA):=(xks a b).snd
def xpM {T:Type} (a b:LA) (δ:T) (κ:LA->T):T:=br ((Iter (xbF b a (↑a.length:Int)) (0,0,[])).isSome) (br ((xkt a b).isSome) (br ((xfZ a b).beq (xfx a b).length&&(decide (xfZ a b<4611686018427387904)&&(xfx a b).all isE)) (br (decide (0+xfZ a b<=(srtE (xfx a b)).length)&&true) (κ (List.take (xfZ a b) (List.drop 0 (srtE (xfx a b))))) δ) δ) δ) δ
def xgl (a b:LA):=xpM a b none some
def xHo:EO:=xy5.f Tryz.func87 49 0 [] [(3,xkZ.lp),(9,xpL.lp)] (lks (lkC xkZ.ok (lkC xpL.ok lkN))) (u2 (uL 2) (uL 2)) (fun (a,b,_) _=>xpM a b) (fun _ p=>AV.list 3 p) []
def xlf (a b:Bool):Bool:=((a))
def xA9 {T:Type} (a b:Bool) (δ:T) (κ:Bool->T):T:=κ (a)
def xHp:EO:=xHo.fT Tryz.func74 6 0 [] [] lk0 (fun (a,b,_)=>xA9 a b none) (u2 (sEq pBool) (sEq pBool)) (fun (a,b,_)=>xlf a b) (fun _ p=>(AV.bool p))
def xd8 (a b:Bool):Bool:=(br (a) ((b)) ((false)))
def xs9 {T:Type} (a b:Bool) (δ:T) (κ:Bool->T):T:=br (a) (κ (b)) (κ (false))
def xy6:EO:=xHp.fT Tryz.func57 9 0 [] [] lk0 (fun (a,b,_)=>xs9 a b none) (u2 (sEq pBool) (sEq pBool)) (fun (a,b,_)=>xd8 a b) (fun _ p=>(AV.bool p))
def xjc (l:LA) (i:Int):=decide (0<=i)&&decide (i<l.length)
def xoC {T:Type} (l:LA) (e:Nat) (d b c i:Int) (a:LA) (δ:T) (κl:(Int×Int×Int×LA)->T) (κr:(Int×Int×Int×LA)->T):T:=br (decide (i<l.length)) (br (xjc l i) (br (decide (i.toNat<l.length)&&xKF (Sh.int .i64) ((l.getD i.toNat .top).cells.getD 0 .top)) (br (((l.getD i.toNat .top).cells.getD 0 .top).toInt==d) (br (xjc l i) (br (decide (i.toNat<l.length)&&xKF (Sh.int .i64) ((l.getD i.toNat .top).cells.getD 1 .top)) (br (xjc l i) (br (decide (i.toNat<l.length)&&xKF (Sh.int .i64) ((l.getD i.toNat .top).cells.getD 2 .top)) (κl (i64.wrap (b+((l.getD i.toNat .top).cells.getD 1 .top).toInt),i64.wrap (c+((l.getD i.toNat .top).cells.getD 2 .top).toInt),i64.wrap (i+1),a)) δ) δ) δ) δ) (κr (b,c,i,a))) δ) δ) (κr (b,c,i,a))
def xhU (l:LA) (b:Nat) (c:Int):StT (Int×Int×Int×LA) (Int×Int×Int×LA):=fun (d,e,i,a)=>xoC l b c d e i a none inL inR
def xgr:=xy6.l 92 0 [] [] Tryz.f56 1 lk0 [2,7,8,9,10,11,12] [2,7,8,9,10,11,12] [(8,2,50)] (q7 (xK3 74 xLq) (qL 3) (xLB 0 0 0) qI qI qI qI) (q1 (qB 0 2 50 xLs)) (fun (_,l,a,d,e,i,c,_) (b,_)=>(xhU l a c,(d,e,i,b),fun p=>(.leaf (.exit 2) [AV.func 74 [],AV.list 3 l,AV.osl 0 0 0 a,AV.int .i64 p.1,AV.int .i64 p.2.1,AV.int .i64 p.2.2.1,AV.int .i64 c] [bF 0 2 50 p.2.2.2]))) (0,0,0,[]) fun (_,l,a,_,_,_,c,_) _ (d,e,i,b)=>((((),l,a,d,e,i,c,()),(b,())),xoC l a c d e i b none)
def xgq (a:Nat):=decide (0<=i64.wrap ((↑a:Int) - 1))&&decide (i64.wrap ((↑a:Int) - 1)<(↑a:Int))
def xmq (l:LA) (b:Nat) (d e i c:Int) (a:LA):=(Iter (xhU l b c) (d,e,i,a)).getD (0,0,0,[])
def xaE (a:Nat):Nat:=0+(i64.wrap ((↑a:Int) - 1)).toNat
def xnX (l:LA) (b:Nat) (d e i c:Int) (a:LA):=(xmq l b d e i c a).snd
def xbi (l:LA) (b:Nat) (d e i c:Int) (a:LA):=(xmq l b d e i c a).fst
def xbh (l:LA) (b:Nat) (d e i c:Int) (a:LA):=(xnX l b d e i c a).fst
def xnW (l:LA) (b:Nat) (d e i c:Int) (a:LA):=(xnX l b d e i c a).snd
def xad (l:LA) (b:Nat) (d e i c:Int) (a:LA):=(xnW l b d e i c a).snd
def xnU (l:LA) (b:Nat) (d e i c:Int) (a:LA):=xlf (decide (xbi l b d e i c a>0)) (decide (xbh l b d e i c a>0))
def xah (l:LA) (b:Nat) (d e i c:Int) (a:LA):=(xnW l b d e i c a).fst
def xgp (l:LA) (a:Nat) (d e i c:Int) (b:LA):=decide (xaE a<(xad l a d e i c b).length)
def xnV (l:LA) (b:Nat) (d e i c:Int) (a:LA):=decide (xah l b d e i c a<l.length)
def xoB {T:Type} (l:LA) (a:Nat) (d e i c:Int) (b:LA) (δ:T) (κl:(Nat×Int×Int×Int×Int×LA)->T) (κr:(Nat×LA)->T):T:=br (decide (c<1099511627776)) (br ((Iter (xhU l a c) (d,e,i,b)).isSome) (br (xnV l a d e i c b) (br (decide (0<=xah l a d e i c b)&&xnV l a d e i c b) (br (decide ((xah l a d e i c b).toNat<l.length)&&xKF (Sh.int .i64) ((l.getD (xah l a d e i c b).toNat .top).cells.getD 0 .top)) (br (xnU l a d e i c b) (br (decide ((↑a:Int)>0)) (br (xgq a) (br (xgp l a d e i c b&&xKF (Sh.int .i64) (((xad l a d e i c b).getD (xaE a) .top).cells.getD 1 .top)) (br ((((xad l a d e i c b).getD (xaE a) .top).cells.getD 1 .top).toInt==c) (br (xgq a) (br (xgp l a d e i c b) (κl (a,xbi l a d e i c b,xbh l a d e i c b,xah l a d e i c b,((l.getD (xah l a d e i c b).toNat .top).cells.getD 0 .top).toInt,(xad l a d e i c b).set (xaE a) (AV.agg (List.take 1 ((xad l a d e i c b).getD (xaE a) .top).cells++[AV.int .i64 ((l.getD (xah l a d e i c b).toNat .top).cells.getD 0 .top).toInt]++List.drop 2 ((xad l a d e i c b).getD (xaE a) .top).cells)))) δ) δ) (br (a==(xad l a d e i c b).length&&(decide ((a+1)*16<=140737488355328)&&decide (a+1<=4611686018427387904))) (κl (a+1,xbi l a d e i c b,xbh l a d e i c b,xah l a d e i c b,((l.getD (xah l a d e i c b).toNat .top).cells.getD 0 .top).toInt,xad l a d e i c b++[AV.agg [AV.int .i64 c,AV.int .i64 ((l.getD (xah l a d e i c b).toNat .top).cells.getD 0 .top).toInt]])) δ)) δ) δ) (br (a==(xad l a d e i c b).length&&(decide ((a+1)*16<=140737488355328)&&decide (a+1<=4611686018427387904))) (κl (a+1,xbi l a d e i c b,xbh l a d e i c b,xah l a d e i c b,((l.getD (xah l a d e i c b).toNat .top).cells.getD 0 .top).toInt,xad l a d e i c b++[AV.agg [AV.int .i64 c,AV.int .i64 ((l.getD (xah l a d e i c b).toNat .top).cells.getD 0 .top).toInt]])) δ)) (κl (a,xbi l a d e i c b,xbh l a d e i c b,xah l a d e i c b,((l.getD (xah l a d e i c b).toNat .top).cells.getD 0 .top).toInt,xad l a d e i c b))) δ) δ) (br (xnU l a d e i c b) (br (decide ((↑a:Int)>0)) (br (xgq a) (br (xgp l a d e i c b&&xKF (Sh.int .i64) (((xad l a d e i c b).getD (xaE a) .top).cells.getD 1 .top)) (br ((((xad l a d e i c b).getD (xaE a) .top).cells.getD 1 .top).toInt==c) (br (xgq a) (br (xgp l a d e i c b) (κl (a,xbi l a d e i c b,xbh l a d e i c b,xah l a d e i c b,1099511627776,(xad l a d e i c b).set (xaE a) (AV.agg (List.take 1 ((xad l a d e i c b).getD (xaE a) .top).cells++[AV.int .i64 1099511627776]++List.drop 2 ((xad l a d e i c b).getD (xaE a) .top).cells)))) δ) δ) (br (a==(xad l a d e i c b).length&&(decide ((a+1)*16<=140737488355328)&&decide (a+1<=4611686018427387904))) (κl (a+1,xbi l a d e i c b,xbh l a d e i c b,xah l a d e i c b,1099511627776,xad l a d e i c b++[AV.agg [AV.int .i64 c,AV.int .i64 1099511627776]])) δ)) δ) δ) (br (a==(xad l a d e i c b).length&&(decide ((a+1)*16<=140737488355328)&&decide (a+1<=4611686018427387904))) (κl (a+1,xbi l a d e i c b,xbh l a d e i c b,xah l a d e i c b,1099511627776,xad l a d e i c b++[AV.agg [AV.int .i64 c,AV.int .i64 1099511627776]])) δ)) (κl (a,xbi l a d e i c b,xbh l a d e i c b,xah l a d e i c b,1099511627776,xad l a d e i c b)))) δ) (κr (a,b))
def xmb (l:LA):StT (Nat×Int×Int×Int×Int×LA) (Nat×LA):=fun (b,d,e,i,c,a)=>xoB l b d e i c a none inL inR
def xnT:=xy6.l 92 0 [] [(6,xgr.lp)] Tryz.f56 0 (lk1 xgr.ok) [2,7,8,9,10,11,12] [8] [(8,2,50)] (q7 (xK3 74 xLq) (qL 3) (xLB 0 0 0) qI qI qI qI) (q1 (qB 0 2 50 xLs)) (fun (_,l,b,d,e,i,c,_) (a,_)=>(xmb l,(b,d,e,i,c,a),fun p=>(.leaf (.exit 0) [AV.osl 0 0 0 p.1] [bF 0 2 50 p.2]))) (0,[]) fun (_,l,_,_,_,_,_,_) _ (b,d,e,i,c,a)=>((((),l,b,d,e,i,c,()),(a,())),xoB l b d e i c a none)
def xqw (a b:LA):=Iter (xmb ((xgl a b).getD [])) (0,0,0,0,0,[])
def xqv (a b:LA):=(xqw a b).getD (0,[])
def xqt (a b:LA):=(xqv a b).snd
def xqu (a b:LA):=(xqv a b).fst
def xro {T:Type} (a b:LA) (δ:T) (κ:LA->T):T:=br ((xgl a b).isSome) (br ((xqw a b).isSome) (br (decide (0+xqu a b<=(xqt a b).length)&&true) (κ (List.take (xqu a b) (List.drop 0 (xqt a b)))) δ) δ) δ
def xpO (a b:LA):=xro a b none some
def xHq:EO:=xy6.f Tryz.func56 92 0 [] [(6,xgr.lp),(5,xnT.lp)] (lks (lkC xnT.ok (lkC xgr.ok lkN))) (u3 (uL 2) (uL 2) (sEq (xK3 (74:FuncId) xLq))) (fun (a,b,_,_) _=>xro a b) (fun _ p=>AV.list 2 p) []
def xta {T:Type} (l:LA) (δ:T) (κ:LA->T):T:=br ((xpO l []).isSome) (κ ((xpO l []).getD [])) δ
def xle (l:LA):=xta l none some
def xy7:EO:=xHq.f Tryz.func43 5 0 [] [] lk0 (u1 (uL 2)) (fun (l,_) _=>xta l) (fun _ p=>AV.list 2 p) []
def xjb (l:LA) (i:Int):=decide (0<=i)&&decide (i<l.length)
def xoA {T:Type} (l:LA) (e:Nat) (d b c i:Int) (a:LA) (δ:T) (κl:(Int×Int×Int×LA)->T) (κr:(Int×Int×Int×LA)->T):T:=br (decide (i<l.length)) (br (xjb l i) (br (decide (i.toNat<l.length)&&xKF (Sh.int .i64) ((l.getD i.toNat .top).cells.getD 0 .top)) (br (((l.getD i.toNat .top).cells.getD 0 .top).toInt==d) (br (xjb l i) (br (decide (i.toNat<l.length)&&xKF (Sh.int .i64) ((l.getD i.toNat .top).cells.getD 1 .top)) (br (xjb l i) (br (decide (i.toNat<l.length)&&xKF (Sh.int .i64) ((l.getD i.toNat .top).cells.getD 2 .top)) (κl (i64.wrap (b+((l.getD i.toNat .top).cells.getD 1 .top).toInt),i64.wrap (c+((l.getD i.toNat .top).cells.getD 2 .top).toInt),i64.wrap (i+1),a)) δ) δ) δ) δ) (κr (b,c,i,a))) δ) δ) (κr (b,c,i,a))
def xhT (l:LA) (b:Nat) (c:Int):StT (Int×Int×Int×LA) (Int×Int×Int×LA):=fun (d,e,i,a)=>xoA l b c d e i a none inL inR
def xgo:=xy7.l 92 0 [] [] Tryz.f56 1 lk0 [2,7,8,9,10,11,12] [2,7,8,9,10,11,12] [(8,2,50)] (q7 (xK3 57 xLq) (qL 3) (xLB 0 0 0) qI qI qI qI) (q1 (qB 0 2 50 xLs)) (fun (_,l,a,d,e,i,c,_) (b,_)=>(xhT l a c,(d,e,i,b),fun p=>(.leaf (.exit 2) [AV.func 57 [],AV.list 3 l,AV.osl 0 0 0 a,AV.int .i64 p.1,AV.int .i64 p.2.1,AV.int .i64 p.2.2.1,AV.int .i64 c] [bF 0 2 50 p.2.2.2]))) (0,0,0,[]) fun (_,l,a,_,_,_,c,_) _ (d,e,i,b)=>((((),l,a,d,e,i,c,()),(b,())),xoA l a c d e i b none)
def xgn (a:Nat):=decide (0<=i64.wrap ((↑a:Int) - 1))&&decide (i64.wrap ((↑a:Int) - 1)<(↑a:Int))
def xmp (l:LA) (b:Nat) (d e i c:Int) (a:LA):=(Iter (xhT l b c) (d,e,i,a)).getD (0,0,0,[])
def xaD (a:Nat):Nat:=0+(i64.wrap ((↑a:Int) - 1)).toNat
def xbg (l:LA) (b:Nat) (d e i c:Int) (a:LA):=(xmp l b d e i c a).fst
def xnS (l:LA) (b:Nat) (d e i c:Int) (a:LA):=(xmp l b d e i c a).snd
def xnR (l:LA) (b:Nat) (d e i c:Int) (a:LA):=(xnS l b d e i c a).snd
def xbf (l:LA) (b:Nat) (d e i c:Int) (a:LA):=(xnS l b d e i c a).fst
def xac (l:LA) (b:Nat) (d e i c:Int) (a:LA):=(xnR l b d e i c a).snd
def xnP (l:LA) (b:Nat) (d e i c:Int) (a:LA):=xd8 (decide (xbg l b d e i c a>0)) (decide (xbf l b d e i c a>0))
def xag (l:LA) (b:Nat) (d e i c:Int) (a:LA):=(xnR l b d e i c a).fst
def xgm (l:LA) (a:Nat) (d e i c:Int) (b:LA):=decide (xaD a<(xac l a d e i c b).length)
def xnQ (l:LA) (b:Nat) (d e i c:Int) (a:LA):=decide (xag l b d e i c a<l.length)
def xoz {T:Type} (l:LA) (a:Nat) (d e i c:Int) (b:LA) (δ:T) (κl:(Nat×Int×Int×Int×Int×LA)->T) (κr:(Nat×LA)->T):T:=br (decide (c<1099511627776)) (br ((Iter (xhT l a c) (d,e,i,b)).isSome) (br (xnQ l a d e i c b) (br (decide (0<=xag l a d e i c b)&&xnQ l a d e i c b) (br (decide ((xag l a d e i c b).toNat<l.length)&&xKF (Sh.int .i64) ((l.getD (xag l a d e i c b).toNat .top).cells.getD 0 .top)) (br (xnP l a d e i c b) (br (decide ((↑a:Int)>0)) (br (xgn a) (br (xgm l a d e i c b&&xKF (Sh.int .i64) (((xac l a d e i c b).getD (xaD a) .top).cells.getD 1 .top)) (br ((((xac l a d e i c b).getD (xaD a) .top).cells.getD 1 .top).toInt==c) (br (xgn a) (br (xgm l a d e i c b) (κl (a,xbg l a d e i c b,xbf l a d e i c b,xag l a d e i c b,((l.getD (xag l a d e i c b).toNat .top).cells.getD 0 .top).toInt,(xac l a d e i c b).set (xaD a) (AV.agg (List.take 1 ((xac l a d e i c b).getD (xaD a) .top).cells++[AV.int .i64 ((l.getD (xag l a d e i c b).toNat .top).cells.getD 0 .top).toInt]++List.drop 2 ((xac l a d e i c b).getD (xaD a) .top).cells)))) δ) δ) (br (a==(xac l a d e i c b).length&&(decide ((a+1)*16<=140737488355328)&&decide (a+1<=4611686018427387904))) (κl (a+1,xbg l a d e i c b,xbf l a d e i c b,xag l a d e i c b,((l.getD (xag l a d e i c b).toNat .top).cells.getD 0 .top).toInt,xac l a d e i c b++[AV.agg [AV.int .i64 c,AV.int .i64 ((l.getD (xag l a d e i c b).toNat .top).cells.getD 0 .top).toInt]])) δ)) δ) δ) (br (a==(xac l a d e i c b).length&&(decide ((a+1)*16<=140737488355328)&&decide (a+1<=4611686018427387904))) (κl (a+1,xbg l a d e i c b,xbf l a d e i c b,xag l a d e i c b,((l.getD (xag l a d e i c b).toNat .top).cells.getD 0 .top).toInt,xac l a d e i c b++[AV.agg [AV.int .i64 c,AV.int .i64 ((l.getD (xag l a d e i c b).toNat .top).cells.getD 0 .top).toInt]])) δ)) (κl (a,xbg l a d e i c b,xbf l a d e i c b,xag l a d e i c b,((l.getD (xag l a d e i c b).toNat .top).cells.getD 0 .top).toInt,xac l a d e i c b))) δ) δ) (br (xnP l a d e i c b) (br (decide ((↑a:Int)>0)) (br (xgn a) (br (xgm l a d e i c b&&xKF (Sh.int .i64) (((xac l a d e i c b).getD (xaD a) .top).cells.getD 1 .top)) (br ((((xac l a d e i c b).getD (xaD a) .top).cells.getD 1 .top).toInt==c) (br (xgn a) (br (xgm l a d e i c b) (κl (a,xbg l a d e i c b,xbf l a d e i c b,xag l a d e i c b,1099511627776,(xac l a d e i c b).set (xaD a) (AV.agg (List.take 1 ((xac l a d e i c b).getD (xaD a) .top).cells++[AV.int .i64 1099511627776]++List.drop 2 ((xac l a d e i c b).getD (xaD a) .top).cells)))) δ) δ) (br (a==(xac l a d e i c b).length&&(decide ((a+1)*16<=140737488355328)&&decide (a+1<=4611686018427387904))) (κl (a+1,xbg l a d e i c b,xbf l a d e i c b,xag l a d e i c b,1099511627776,xac l a d e i c b++[AV.agg [AV.int .i64 c,AV.int .i64 1099511627776]])) δ)) δ) δ) (br (a==(xac l a d e i c b).length&&(decide ((a+1)*16<=140737488355328)&&decide (a+1<=4611686018427387904))) (κl (a+1,xbg l a d e i c b,xbf l a d e i c b,xag l a d e i c b,1099511627776,xac l a d e i c b++[AV.agg [AV.int .i64 c,AV.int .i64 1099511627776]])) δ)) (κl (a,xbg l a d e i c b,xbf l a d e i c b,xag l a d e i c b,1099511627776,xac l a d e i c b)))) δ) (κr (a,b))
def xma (l:LA):StT (Nat×Int×Int×Int×Int×LA) (Nat×LA):=fun (b,d,e,i,c,a)=>xoz l b d e i c a none inL inR
def xnO:=xy7.l 92 0 [] [(6,xgo.lp)] Tryz.f56 0 (lk1 xgo.ok) [2,7,8,9,10,11,12] [8] [(8,2,50)] (q7 (xK3 57 xLq) (qL 3) (xLB 0 0 0) qI qI qI qI) (q1 (qB 0 2 50 xLs)) (fun (_,l,b,d,e,i,c,_) (a,_)=>(xma l,(b,d,e,i,c,a),fun p=>(.leaf (.exit 0) [AV.osl 0 0 0 p.1] [bF 0 2 50 p.2]))) (0,[]) fun (_,l,_,_,_,_,_,_) _ (b,d,e,i,c,a)=>((((),l,b,d,e,i,c,()),(a,())),xoz l b d e i c a none)
def xqs (a b:LA):=Iter (xma ((xgl a b).getD [])) (0,0,0,0,0,[])
def xqr (a b:LA):=(xqs a b).getD (0,[])
def xqp (a b:LA):=(xqr a b).snd
def xqq (a b:LA):=(xqr a b).fst
def xrn {T:Type} (a b:LA) (δ:T) (κ:LA->T):T:=br ((xgl a b).isSome) (br ((xqs a b).isSome) (br (decide (0+xqq a b<=(xqp a b).length)&&true) (κ (List.take (xqq a b) (List.drop 0 (xqp a b)))) δ) δ) δ
def xpN (a b:LA):=xrn a b none some
def xHr:EO:=xy7.f Tryz.func56 92 0 [] [(6,xgo.lp),(5,xnO.lp)] (lks (lkC xnO.ok (lkC xgo.ok lkN))) (u3 (uL 2) (uL 2) (sEq (xK3 (57:FuncId) xLq))) (fun (a,b,_,_) _=>xrn a b) (fun _ p=>AV.list 2 p) []
def xkY {T:Type} (a b:LA) (δ:T) (κ:LA->T):T:=br ((xpN a b).isSome) (κ ((xpN a b).getD [])) δ
def xg8 (a b:LA):=xkY a b none some
def xy8:EO:=xHr.f Tryz.func32 8 0 [] [] lk0 (u2 (uL 2) (uL 2)) (fun (a,b,_) _=>xkY a b) (fun _ p=>AV.list 2 p) []
def xeC {T:Type} (h:LA) (i j:Int) (e:LA) (f:Int) (d:Nat) (c:Int) (a b g:LA) (δ:T) (κl:(Nat×Int×LA×LA×LA)->T) (κr:(Nat×LA)->T):T:=br (decide (c<f)) (br (ixI e c) (br (ixT e c 2 [Sh.int .i64,Sh.int .i64] 0) (br (decide (b.length*32<=140737488355328)&&decide (b.length<=4611686018427387904)) (br (decide (0+b.length<=b.length)&&true&&true&&true&&true) (br (rmB d a 1 40) (κl (d+1,i64.wrap (c+1),a++[AV.agg [AV.list 3 (List.take b.length (List.drop 0 b)),AV.int .i64 (gC e c 0).toInt,AV.int .i64 (gC e c 1).toInt]],b,g)) δ) δ) δ) δ) δ) (κr (d,a))
def xbw (c:LA) (d e:Int) (f:LA) (g:Int):StT (Nat×Int×LA×LA×LA) (Nat×LA):=fun (b,h,a,i,j)=>xeC c d e f g b h a i j none inL inR
def xed:=xy8.l 38 0 [58] [] Tryz.f55 1 lk0 [1,5,7,11,12,13,20,21,22] [1,5,11,12,13] [(5,3,58)] (q9 (xK3 43 xLq) (xLB 0 0 0) (xLC 1 0 0 0) (qL 2) qI qI (qL 2) qI qI) (q2 (qB 0 3 58 xLs) (qB 0 2 128 (q1 (xLD (q2 (qL 3) (qL 2)))))) (fun (_,b,_,c,d,e,f,g,h,_) (a,((i,j,_),_),_)=>(xbw c d e f g,(b,h,a,i,j),fun p=>(.leaf (.exit 2) [AV.func 43 [],AV.osl 0 0 0 p.1,AV.list 2 c,AV.int .i64 d,AV.int .i64 e] [bF 0 3 58 p.2]))) (0,[]) fun (_,_,_,c,d,e,f,g,_,_) _ (b,h,a,i,j)=>((((),b,(),c,d,e,f,g,h,()),(a,((i,j,()),()),())),xeC c d e f g b h a i j none)
def xgz (a:LA) (e:Int) (d:Nat) (b:Int) (c:LA):=Iter (xbw a e b ((xle (gC a b 1).toList).getD []) (↑((xle (gC a b 1).toList).getD []).length:Int)) (d,0,c,(gC a b 0).toList,(gC a b 1).toList)
def xgy (c:LA) (d:Int) (b:Nat) (e:Int) (a:LA):=(xgz c d b e a).getD (0,[])
def xeB {T:Type} (d:LA) (e:Int) (c:Nat) (b:Int) (a:LA) (δ:T) (κl:(Nat×Int×LA)->T) (κr:(Nat×LA)->T):T:=br (decide (b<e)) (br (ixI d b) (br (ixT d b 2 [Sh.list 3,Sh.list 2] 0) (br ((xle (gC d b 1).toList).isSome) (br ((xgz d e c b a).isSome) (κl ((xgy d e c b a).fst,i64.wrap (b+1),(xgy d e c b a).snd)) δ) δ) δ) δ) (κr (c,a))
def xb1 (c:LA) (d:Int):StT (Nat×Int×LA) (Nat×LA):=fun (b,e,a)=>xeB c d b e a none inL inR
def xj8:=xy8.l 38 0 [58] [(6,xed.lp)] Tryz.f55 0 (lk1 xed.ok) [1,5,11,12,13] [5] [(5,3,58)] (q5 (xK3 43 xLq) (xLB 0 0 0) (qL 2) qI qI) (q1 (qB 0 3 58 xLs)) (fun (_,b,c,d,e,_) (a,_)=>(xb1 c d,(b,e,a),fun p=>(.leaf (.exit 0) [AV.osl 0 0 0 p.1] [bF 0 3 58 p.2]))) (0,[]) fun (_,_,c,d,_,_) _ (b,e,a)=>((((),b,c,d,e,()),(a,())),xeB c d b e a none)
def xil (l:LA):=Iter (xb1 ((xh4 l).getD []) (↑((xh4 l).getD []).length:Int)) (0,0,[])
def xik (l:LA):=(xil l).getD (0,[])
def xii (l:LA):=(xik l).fst
def xij (l:LA):=(xik l).snd
def xiN {T:Type} (l:LA) (δ:T) (κ:LA->T):T:=br ((xh4 l).isSome) (br ((xil l).isSome) (br (decide (0+xii l<=(xij l).length)&&true) (κ (List.take (xii l) (List.drop 0 (xij l)))) δ) δ) δ
def xkA (l:LA):=xiN l none some
def xHs:EO:=xy8.f Tryz.func55 38 0 [58] [(6,xed.lp),(3,xj8.lp)] (lks (lkC xj8.ok (lkC xed.ok lkN))) (u2 (uL 3) (sEq (xK3 (43:FuncId) xLq))) (fun (l,_,_) _=>xiN l) (fun _ p=>AV.list 3 p) []
def xmH {T:Type} (l:LA) (δ:T) (κ:LA->T):T:=br ((xkA l).isSome) (κ ((xkA l).getD [])) δ
def xiM (l:LA):=xmH l none some
def xDa:EO:=xHs.f Tryz.func31 5 0 [] [] lk0 (u1 (uL 3)) (fun (l,_) _=>xmH l) (fun _ p=>AV.list 3 p) []
def xgd (b a:Bool):Int:=(br (b) (((-1))) (br (a) ((1)) ((0))))
def xz9 {T:Type} (b a:Bool) (δ:T) (κ:Int->T):T:=br (b) (κ ((-1))) (br (a) (κ (1)) (κ (0)))
def xHt:EO:=xDa.fT Tryz.func73 7 0 [] [] lk0 (fun (b,a,_)=>xz9 b a none) (u2 (sEq pBool) (sEq pBool)) (fun (b,a,_)=>xgd b a) (fun _ p=>(AV.int .i64 p))
def xfW (a b:Int) (c:List UInt8) (d e:Int) (f:List UInt8):Int:=(br (a != d) ((xgd (decide (a<d)) (decide (a>d)))) (br (b != e) ((xgd (decide (b<e)) (decide (b>e)))) ((xgd (Op.bytesLess c f) !(Op.bytesLess c f || c==f)))))
def xvr {T:Type} (a b:Int) (c:List UInt8) (d e:Int) (f:List UInt8) (δ:T) (κ:Int->T):T:=br (a != d) (κ (xgd (decide (a<d)) (decide (a>d)))) (br (b != e) (κ (xgd (decide (b<e)) (decide (b>e)))) (κ (xgd (Op.bytesLess c f) !(Op.bytesLess c f || c==f))))
def xDb:EO:=xHt.fT Tryz.func42 48 0 [] [] lk0 (fun ((a,b,c,_),(d,e,f,_),_)=>xvr a b c d e f none) (u2 (xLG (u3 uI uI (sEq pStr))) (xLG (u3 uI uI (sEq pStr)))) (fun ((a,b,c,_),(d,e,f,_),_)=>xfW a b c d e f) (fun _ p=>(AV.int .i64 p))
def xcO (a b:LA) (i:Int):=xfW (gC a i 0).toInt (gC a i 1).toInt (gC a i 2).toStr (gC b i 0).toInt (gC b i 1).toInt (gC b i 2).toStr
def xc5 {T:Type} (a b:LA) (i:Int) (δ:T) (κl:(Int)->T) (κr:(Bool×(Int)×(Unit))->T):T:=br (decide (i<a.length)) (br (decide (i<b.length)) (br (ixI a i) (br (ixT a i 3 [Sh.int .i64,Sh.int .i64,Sh.str] 0) (br (ixI b i) (br (ixT b i 3 [Sh.int .i64,Sh.int .i64,Sh.str] 0) (br (xcO a b i != 0) (κr (true,(xcO a b i),())) (κl (i64.wrap (i+1)))) δ) δ) δ) δ) (κr (false,0,()))) (κr (false,0,()))
def xaJ (a b:LA):StT (Int) (Bool×(Int)×(Unit)):=fun (i)=>xc5 a b i none inL inR
def xmm:=xDb.l 41 0 [] [] Tryz.f17 0 lk0 [0,1,5] [0,1,4] [] (q3 (qL 3) (qL 3) qI) xLq (fun (a,b,i,_) _=>(xaJ a b,(i),fun p=>(.node p.1 (.leaf .ret [AV.list 3 a,AV.list 3 b,AV.int .i64 p.2.1] []) (.leaf (.exit 0) [AV.list 3 a,AV.list 3 b,.top] [])))) (false,0,()) fun (a,b,_,_) _ (i)=>(((a,b,i,()),()),xc5 a b i none)
def xlU {T:Type} (a b:LA) (δ:T) (κ:Int->T):T:=br ((Iter (xaJ a b) 0).isSome) (br (((Iter (xaJ a b) 0).getD (false,0,())).fst) (κ (((Iter (xaJ a b) 0).getD (false,0,())).snd.fst)) (br (decide ((↑a.length:Int)<(↑b.length:Int))) (κ ((-1))) (br (decide ((↑a.length:Int)>(↑b.length:Int))) (κ (1)) (κ (0))))) δ
def xaW (a b:LA):=xlU a b none some
def xHu:EO:=xDb.f Tryz.func17 41 0 [] [(2,xmm.lp)] (lk1 xmm.ok) (u2 (uL 3) (uL 3)) (fun (a,b,_) _=>xlU a b) (fun _ p=>AV.int .i64 p) 0
def xgA (a b:Int):Bool:=(br (decide (a>=0)) (br (decide (a<b)) ((decide (b<=1099511627776))) ((false))) ((false)))
def xyK {T:Type} (a b:Int) (δ:T) (κ:Bool->T):T:=br (decide (a>=0)) (br (decide (a<b)) (κ (decide (b<=1099511627776))) (κ (false))) (κ (false))
def xHv:EO:=xHu.fT Tryz.func46 18 0 [] [] lk0 (fun ((a,b,_),_)=>xyK a b none) (u1 (xLG (u2 uI uI))) (fun ((a,b,_),_)=>xgA a b) (fun _ p=>(AV.bool p))
def xgU (a b t:Int):Bool:=(br (xgA a b) (br (decide (a<=t)) ((decide (t<b))) ((false))) ((false)))
def xuC {T:Type} (a b t:Int) (δ:T) (κ:Bool->T):T:=br (xgA a b) (br (decide (a<=t)) (κ (decide (t<b))) (κ (false))) (κ (false))
def xDc:EO:=xHv.fT Tryz.func24 19 0 [] [] lk0 (fun ((a,b,_),t,_)=>xuC a b t none) (u2 (xLG (u2 uI uI)) uI) (fun ((a,b,_),t,_)=>xgU a b t) (fun _ p=>(AV.bool p))
def xiy {T:Type} (a b:LA) (i:Int) (δ:T) (κl:(Int)->T) (κr:(Bool×(Bool)×(Unit))->T):T:=br (decide (i<a.length)) (br (ixI a i) (br (ixT a i 2 [Sh.int .i64,Sh.int .i64] 0) (br (ixI b i) (br (ixT b i 2 [Sh.int .i64,Sh.int .i64] 0) (br (!((gC a i 0).toInt==(gC b i 0).toInt&&((gC a i 1).toInt==(gC b i 1).toInt&&true))) (κr (true,(false),())) (κl (i64.wrap (i+1)))) δ) δ) δ) δ) (κr (false,false,()))
def xbE (a b:LA):StT (Int) (Bool×(Bool)×(Unit)):=fun (i)=>xiy a b i none inL inR
def xpj:=xDc.l 26 0 [] [] Tryz.f18 0 lk0 [0,1,5] [4] [] (q3 (qL 2) (qL 2) qI) xLq (fun (a,b,i,_) _=>(xbE a b,(i),fun p=>(.node p.1 (.leaf .ret [AV.bool p.2.1] []) (.leaf (.exit 0) [.top] [])))) (false,false,()) fun (a,b,_,_) _ (i)=>(((a,b,i,()),()),xiy a b i none)
def xpk {T:Type} (a b:LA) (δ:T) (κ:Bool->T):T:=br ((↑a.length:Int) != (↑b.length:Int)) (κ (false)) (br ((Iter (xbE a b) 0).isSome) (br (((Iter (xbE a b) 0).getD (false,false,())).fst) (κ (((Iter (xbE a b) 0).getD (false,false,())).snd.fst)) (κ (true))) δ)
def xrP (a b:LA):=xpk a b none some
def xHw:EO:=xDc.f Tryz.func18 26 0 [] [(4,xpj.lp)] (lk1 xpj.ok) (u2 (uL 2) (uL 2)) (fun (a,b,_) _=>xpk a b) (fun _ p=>AV.bool p) false
def xCL:Int×Int×List UInt8:=((0,0,[]))
def xz8 {T:Type} (δ:T) (κ:Int×Int×List UInt8->T):T:=κ (0,0,[])
def xGl:EO:=xHw.fT Tryz.func101 2 0 [] [] lk0 (fun _=>xz8 none) xLr (fun _=>xCL) (fun _ p=>(AV.agg [AV.int .i64 p.1,AV.int .i64 p.2.1,AV.str p.2.2]))
def xvs {T:Type} (a:LA) (i:Int) (δ:T) (κ:Int×Int×List UInt8->T):T:=br (decide (i<0)) (κ (0,0,[])) (br (decide (i>=a.length)) (κ (0,0,[])) (br (ixI a i) (br (ixT a i 3 [Sh.int .i64,Sh.int .i64,Sh.str] 0) (κ ((gC a i 0).toInt,(gC a i 1).toInt,(gC a i 2).toStr)) δ) δ))
def xkN (a:LA) (i:Int):=xvs a i none some
def xBl:EO:=xGl.f Tryz.func75 18 0 [] [] lk0 (u2 (uL 3) uI) (fun (a,i,_) _=>xvs a i) (fun _ p=>AV.agg [AV.int .i64 p.1,AV.int .i64 p.2.1,AV.str p.2.2]) (0,0,[])
def xi4 (o:LA) (i:Int):=ixI o i
def xnJ (a o:LA) (i:Int):=(xkN a (gC o i 0).toInt).getD (0,0,[])
def xnK (b o:LA) (i:Int):=(xkN b (gC o i 0).toInt).getD (0,0,[])
def xnH (b o:LA) (i:Int):=(xnK b o i).snd
def xnI (a o:LA) (i:Int):=(xnJ a o i).snd
def xnG (a b o:LA) (i:Int):=xfW (xnJ a o i).fst (xnI a o i).fst (xnI a o i).snd (xnK b o i).fst (xnH b o i).fst (xnH b o i).snd
def xjU {T:Type} (a b o:LA) (i:Int) (δ:T) (κl:(Int)->T) (κr:(Bool×(Bool)×(Unit))->T):T:=br (decide (i<o.length)) (br (xi4 o i) (br (ixS o i (Sh.int .i64) 0) (br ((xkN a (gC o i 0).toInt).isSome) (br (xi4 o i) (br (ixS o i (Sh.int .i64) 0) (br ((xkN b (gC o i 0).toInt).isSome) (br (xnG a b o i != 0) (br (xi4 o i) (br (decide (i.toNat<o.length)&&xKF Sh.bool (gC o i 1)) (κr (true,(!decide (xnG a b o i<0)==(gC o i 1).toBool),())) δ) δ) (κl (i64.wrap (i+1)))) δ) δ) δ) δ) δ) δ) (κr (false,false,()))
def xcn (a b o:LA):StT (Int) (Bool×(Bool)×(Unit)):=fun (i)=>xjU a b o i none inL inR
def xnF:=xBl.l 44 0 [] [] Tryz.f125 0 lk0 [0,1,2,7] [0,1,6] [] (q4 (qL 3) (qL 3) (qL 2) qI) xLq (fun (a,b,o,i,_) _=>(xcn a b o,(i),fun p=>(.node p.1 (.leaf .ret [AV.list 3 a,AV.list 3 b,AV.bool p.2.1] []) (.leaf (.exit 0) [AV.list 3 a,AV.list 3 b,.top] [])))) (false,false,()) fun (a,b,o,_,_) _ (i)=>(((a,b,o,i,()),()),xjU a b o i none)
def xmL {T:Type} (a b o:LA) (δ:T) (κ:Bool->T):T:=br ((Iter (xcn a b o) 0).isSome) (br (((Iter (xcn a b o) 0).getD (false,false,())).fst) (κ (((Iter (xcn a b o) 0).getD (false,false,())).snd.fst)) (br ((xaW a b).isSome) (κ (decide ((xaW a b).getD 0<0))) δ)) δ
def xlV (a b o:LA):=xmL a b o none some
def xBm:EO:=xBl.f Tryz.func125 44 0 [] [(2,xnF.lp)] (lk1 xnF.ok) (u3 (uL 3) (uL 3) (uL 2)) (fun (a,b,o,_) _=>xmL a b o) (fun _ p=>AV.bool p) false
def xb7 (a:LA) (i:Int):=decide (i.toNat<a.length)&&xKF (Sh.list 3) (gC a i 0)
def xb8 (b:LA) (k:Int):=decide (k.toNat<b.length)&&xKF (Sh.list 3) (gC b k 0)
def xb9 (a:LA) (i:Int):=ixI a i
def xca (b:LA) (k:Int):=ixI b k
def xbT {T:Type} (b:LA) (c:Nat) (i k:Int) (a:LA) (δ:T) (κl:(Nat×Int×Int×LA)->T):T:=br (xca b k) (br (xb8 b k) (br (rmB c a 1 24) (κl (c+1,i,i64.wrap (k+1),a++[AV.list 3 (gC b k 0).toList])) δ) δ) δ
def xbU {T:Type} (a:LA) (c:Nat) (i k:Int) (b:LA) (δ:T) (κl:(Nat×Int×Int×LA)->T):T:=br (xb9 a i) (br (xb7 a i) (br (rmB c b 1 24) (κl (c+1,i64.wrap (i+1),k,b++[AV.list 3 (gC a i 0).toList])) δ) δ) δ
def xbS {T:Type} (a b o:LA) (d:Nat) (i k:Int) (c:LA) (δ:T) (κl:(Nat×Int×Int×LA)->T):T:=br (i==(↑a.length:Int)) (xbT b d i k c δ κl) (br (decide (k<b.length)) (br (xca b k) (br (xb8 b k) (br (xb9 a i) (br (xb7 a i) (br ((xlV (gC b k 0).toList (gC a i 0).toList o).isSome) (br ((xlV (gC b k 0).toList (gC a i 0).toList o).getD false) (xbT b d i k c δ κl) (xbU a d i k c δ κl)) δ) δ) δ) δ) δ) (xbU a d i k c δ κl))
def xcC {T:Type} (a b o:LA) (d:Nat) (i k:Int) (c:LA) (δ:T) (κl:(Nat×Int×Int×LA)->T) (κr:(Nat×LA)->T):T:=br (decide (i<a.length)) (xbS a b o d i k c δ κl) (br (decide (k<b.length)) (xbS a b o d i k c δ κl) (κr (d,c)))
def xaR (a b o:LA):StT (Nat×Int×Int×LA) (Nat×LA):=fun (d,i,k,c)=>xcC a b o d i k c none inL inR
def xnL:=xBm.l 62 0 [] [] Tryz.f100 0 lk0 [0,1,2,7,8,9] [7] [(7,1,34)] (q6 (qL 1) (qL 1) (qL 2) (xLB 0 0 0) qI qI) (q1 (qB 0 1 34 xLs)) (fun (a,b,o,d,i,k,_) (c,_)=>(xaR a b o,(d,i,k,c),fun p=>(.leaf (.exit 0) [AV.osl 0 0 0 p.1] [bF 0 1 34 p.2]))) (0,[]) fun (a,b,o,_,_,_,_) _ (d,i,k,c)=>(((a,b,o,d,i,k,()),(c,())),xcC a b o d i k c none)
def xlZ (a b o:LA):=Iter (xaR a b o) (0,0,0,[])
def xlY (a b o:LA):=(xlZ a b o).getD (0,[])
def xlW (a b o:LA):=(xlY a b o).fst
def xlX (a b o:LA):=(xlY a b o).snd
def xmM {T:Type} (a b o:LA) (δ:T) (κ:LA->T):T:=br ((xlZ a b o).isSome) (br (decide (0+xlW a b o<=(xlX a b o).length)&&true) (κ (List.take (xlW a b o) (List.drop 0 (xlX a b o)))) δ) δ
def xpu (a b o:LA):=xmM a b o none some
def xtj:EO:=xBm.f Tryz.func100 62 0 [] [(3,xnL.lp)] (lk1 xnL.ok) (u3 (uL 1) (uL 1) (uL 2)) (fun (a,b,o,_) _=>xmM a b o) (fun _ p=>AV.list 1 p) []
def xkP (R:LA->LA->Option (LA)):LA->Option (Bool×AV):=ocOf (xLp (xLF 1 xLs) (xLp (xLF 2 xLs) xLr)) fun (l,(o,_))=>((R l o).isSome,AV.list 1 ((R l o).getD []))
def xgK (R:LA->LA->Option (LA)):Prop:=OcOk P0 xLn 72 (xkP R)
def xfp (R:LA->LA->Option (LA)):Env:=(xtj.E.with 72 (xkP R)).fn 34 0 (lsOf []) (xK2 [])
theorem xty (R:LA->LA->Option (LA)) (a:xgK R):xKH P0 (xLn.at 0) (xfp R):=(xtj.ok.with a).fn
theorem xss (R:LA->LA->Option (LA)) (a:xgK R):LoOk P0 (xLn.at (xfp R).pin) (xfp R) (Tryz.f72.body.getD .skip):=xhw (by kernel_rfl)
def xgW (l:LA):=decide (0<=i64.wrap ((↑l.length:Int).tdiv 2))&&decide (i64.wrap ((↑l.length:Int).tdiv 2)<=(↑l.length:Int))
def xd1 (l:LA):Nat:=0+((l.getD 0 .top).cells.getD 0 .top).toList.length
def xgX (R:LA->LA->Option (LA)) (l o:LA):Option (LA):=R (List.take (l.length - (i64.wrap ((↑l.length:Int).tdiv 2)).toNat) (List.drop (i64.wrap ((↑l.length:Int).tdiv 2)).toNat l)) o
def xgV (R:LA->LA->Option (LA)) (l o:LA):Option (LA):=xpu ((R (List.take ((i64.wrap ((↑l.length:Int).tdiv 2)).toNat - 0) (List.drop 0 l)) o).getD []) ((xgX R l o).getD []) o
def xdF {T:Type} (R:LA->LA->Option (LA)) (l o:LA) (δ:T) (κ:LA->T):T:=br ((↑l.length:Int)==0) (κ ([])) (br ((↑l.length:Int)==1) (br (decide (0<(↑l.length:Int))) (br (decide (0<l.length)&&xKF (Sh.list 3) ((l.getD 0 .top).cells.getD 0 .top)) (br (decide (xd1 l*32<=140737488355328)&&decide (xd1 l<=4611686018427387904)) (br (decide (0+xd1 l<=([]++((l.getD 0 .top).cells.getD 0 .top).toList).length)&&true&&true&&true) (κ ([AV.list 3 (List.take (xd1 l) (List.drop 0 ([]++((l.getD 0 .top).cells.getD 0 .top).toList)))])) δ) δ) δ) δ) (br (xgW l&&true) (br ((R (List.take ((i64.wrap ((↑l.length:Int).tdiv 2)).toNat - 0) (List.drop 0 l)) o).isSome) (br (xgW l) (br ((xgX R l o).isSome) (br ((xgV R l o).isSome) (κ ((xgV R l o).getD [])) δ) δ) δ) δ) δ))
def xbA (R:LA->LA->Option (LA)) (l o:LA):=xdF R l o none some
theorem xyO (R:LA->LA->Option (LA)) (l o:LA):Enc (fun (p:LA)=>((AV.list 1 p):AV)) (xbA R l o) (XF P0 (xfp R) Tryz.f72 (Tryz.f72.body.getD .skip) [AV.list 1 l,AV.list 2 o]):=by
 have h:XF P0 (xfp R) Tryz.f72 (Tryz.f72.body.getD .skip) [AV.list 1 l,AV.list 2 o]=xdF R l o none (fun (p:LA)=>some ((AV.list 1 p):AV)):=by kernel_rfl
 rw [h];unfold xbA xdF;repeat' (first|refine Enc.br ?_ ?_|exact Enc.none|exact Enc.some rfl)
def xyN (R:LA->LA->Option (LA)):LA->Option (Bool×AV):=ocOf (xLp (xLF 1 xLs) (xLp (xLF 2 xLs) xLr)) fun (l,(o,_))=>((xbA R l o).isSome,(AV.list 1 ((xbA R l o).getD [])))
theorem xyM (R:LA->LA->Option (LA)) (a:xgK R):OcOk P0 xLn 72 (xyN R):=xgT fun e g f=>by
 obtain ⟨l,⟨o,_⟩⟩:=e;obtain ⟨b,c⟩:=Prod.mk.inj f;refine xiZ (p:=(xfp R).pin) (xk7 xKQ (xKR P0 _) rfl (xty R a) Tryz.func72 rfl (by kernel_rfl) (xss R a) ((xyO R _ _ _ (xa6 (d:=[]) b)).trans ?_))
 exact congrArg some c
def xbv:Nat->LA->LA->Option (LA)
 | 0=>fun _ _=>none
 | fu_+1=>fun l o=>xbA (xbv fu_) l o
theorem xpq:∀ n,xgK (xbv n)
 | 0=>xgT fun _ _ h=>absurd (Prod.mk.inj h).1 Bool.false_ne_true
 | fu_+1=>fun a r h=>xyM (xbv fu_) (xpq fu_) a r h
def xBn:Env:=xtj.E.with 72 (xkP (xbv 1000))
theorem xBx:xKH P0 xLn xBn:=xtj.ok.with (xpq _)
def xBZ:EO:=EO.mk xBn xBx
def xpt {T:Type} (l:LA) (δ:T) (κ:LA->T):T:=br ((xbv 1000 l []).isSome) (κ ((xbv 1000 l []).getD [])) δ
def xrR (l:LA):=xpt l none some
def xtk:EO:=xBZ.f Tryz.func41 5 0 [] [] lk0 (u1 (uL 1)) (fun (l,_) _=>xpt l) (fun _ p=>AV.list 1 p) []
def xcT (k:Nat) (a:LA):=(List.take ((i64.wrap ((↑k:Int) - 1)).toNat - 0) (List.drop 0 a)).length
def xkl (k:Nat) (a:LA):=decide (0+(i64.wrap ((↑k:Int) - 1)).toNat<a.length)
def xh7 (k:Nat) (a:LA):=((a.getD (0+(i64.wrap ((↑k:Int) - 1)).toNat) .top).cells.getD 1 .top).toInt
def xkm (k:Nat):=decide (0<=i64.wrap ((↑k:Int) - 1))
def xh6 (k:Nat):=xkm k&&decide (i64.wrap ((↑k:Int) - 1)<(↑k:Int))
def xkk (k:Nat) (a:LA):=xkl k a&&xKF (Sh.int .i64) ((a.getD (0+(i64.wrap ((↑k:Int) - 1)).toNat) .top).cells.getD 1 .top)
def xjy {T:Type} (k:Nat) (a b:Int) (c:LA) (δ:T) (κ:Bool×(Nat×LA×LA)×(Nat×LA)->T):T:=br (rmB k c 1 16) (κ (false,(0,[],[]),(k+1,c++[AV.agg [AV.int .i64 a,AV.int .i64 b]]))) δ
def xpl {T:Type} (k:Nat) (b c:Int) (a:LA) (δ:T) (κ:Bool×(Nat×LA×LA)×(Nat×LA)->T):T:=br (decide ((↑k:Int)>0)) (br (xh6 k) (br (xkk k a) (br (decide (xh7 k a>=b)) (br (xkm k&&decide (i64.wrap ((↑k:Int) - 1)<=(↑k:Int))&&true) (br (decide (0+((i64.wrap ((↑k:Int) - 1)).toNat - 0)<=a.length)&&(decide (xcT k a*16<=140737488355328)&&decide (xcT k a<=4611686018427387904))) (br (xh6 k) (br (xkl k a&&xKF (Sh.int .i64) ((a.getD (0+(i64.wrap ((↑k:Int) - 1)).toNat) .top).cells.getD 0 .top)) (br (xh6 k) (br (xkk k a) (br (xcT k a==xcT k a&&(decide ((xcT k a+1)*16<=140737488355328)&&decide (xcT k a+1<=4611686018427387904))) (κ (true,(xcT k a+1,a,List.take ((i64.wrap ((↑k:Int) - 1)).toNat - 0) (List.drop 0 a)++[AV.agg [AV.int .i64 ((a.getD (0+(i64.wrap ((↑k:Int) - 1)).toNat) .top).cells.getD 0 .top).toInt,AV.int .i64 (if c>xh7 k a then c else xh7 k a)]]),(0,[]))) δ) δ) δ) δ) δ) δ) δ) (xjy k b c a δ κ)) δ) δ) (xjy k b c a δ κ)
def xlT (k:Nat) (a b:Int) (c:LA):=xpl k a b c none some
def xgJ {T:Type} (l:LA) (n:Int) (b:Nat) (i:Int) (a:LA) (δ:T) (κl:(Nat×Int×LA)->T) (κr:(Nat×Int×LA)->T):T:=br (decide (i<l.length)) (br (ixI l i) (br (ixS l i (Sh.int .i64) 0) (br (decide ((gC l i 0).toInt<n)) (br (ixI l i) (br (ixS l i (Sh.int .i64) 0) (br (rmB b a 1 8) (κl (b+1,i64.wrap (i+1),a++[AV.int .i64 (gC l i 0).toInt])) δ) δ) δ) (κr (b,i,a))) δ) δ) (κr (b,i,a))
def xcl (l:LA) (n:Int):StT (Nat×Int×LA) (Nat×Int×LA):=fun (b,i,a)=>xgJ l n b i a none inL inR
def xjL {T:Type} (l:LA) (b:Nat) (i:Int) (a:LA) (δ:T) (κl:(Nat×Int×LA)->T) (κr:(Nat×LA)->T):T:=br (decide (i<l.length)) (br (ixI l i) (br (ixS l i (Sh.int .i64) 0) (br (rmB b a 1 8) (κl (b+1,i64.wrap (i+1),a++[AV.int .i64 (gC l i 0).toInt])) δ) δ) δ) (κr (b,a))
def xcm (l:LA):StT (Nat×Int×LA) (Nat×LA):=fun (b,i,a)=>xjL l b i a none inL inR
def xfy (l:LA) (n:Int):=(Iter (xcl l n) (0,0,[])).getD (0,0,[])
def xd0 (l:LA) (n:Int):=(xfy l n).fst
def xfw (l:LA) (n:Int):=(xfy l n).snd
def xbb (l:LA) (n:Int):=(xfw l n).fst
def xdZ (l:LA) (n:Int):=xd0 l n+1
def xdx (l:LA) (n:Int):=(xfw l n).snd
def xf8 (l:LA) (n:Int):=Iter (xcm l) (xdZ l n,xbb l n,xdx l n++[AV.int .i64 n])
def xgc (l:LA) (n:Int):=Iter (xcm l) (xd0 l n,xbb l n,xdx l n)
def xhy (l:LA) (n:Int):=xd0 l n==(xdx l n).length
def xf7 (l:LA) (n:Int):=(xf8 l n).getD (0,[])
def xiz (l:LA) (n:Int):=(xf8 l n).isSome
def xgb (l:LA) (n:Int):=(xgc l n).getD (0,[])
def xf5 (l:LA) (n:Int):=(xf7 l n).fst
def xf6 (l:LA) (n:Int):=(xf7 l n).snd
def xf9 (l:LA) (n:Int):=(xgb l n).snd
def xga (l:LA) (n:Int):=(xgb l n).fst
def xkM {T:Type} (l:LA) (n:Int) (δ:T) (κ:LA->T):T:=br (xhy l n&&(decide (xdZ l n*8<=140737488355328)&&decide (xdZ l n<=4611686018427387904))) (br (xiz l n) (br (decide (0+xf5 l n<=(xf6 l n).length)&&true) (κ (List.take (xf5 l n) (List.drop 0 (xf6 l n)))) δ) δ) δ
def xrg {T:Type} (l:LA) (n:Int) (δ:T) (κ:LA->T):T:=br ((Iter (xcl l n) (0,0,[])).isSome) (br (xbb l n==(↑l.length:Int)) (xkM l n δ κ) (br (decide (0<=xbb l n)&&decide (xbb l n<l.length)) (br (decide ((xbb l n).toNat<l.length)&&xKF (Sh.int .i64) ((l.getD (xbb l n).toNat .top).cells.getD 0 .top)) (br (decide (((l.getD (xbb l n).toNat .top).cells.getD 0 .top).toInt>n)) (xkM l n δ κ) (br ((xgc l n).isSome) (br (decide (0+xga l n<=(xf9 l n).length)&&true) (κ (List.take (xga l n) (List.drop 0 (xf9 l n)))) δ) δ)) δ) δ)) δ
def xfv (l:LA) (n:Int):=xrg l n none some
def xh8 {T:Type} (k:Nat) (a n:Int) (b:LA) (δ:T) (κ:Bool×(Nat×LA)×(Nat×LA)->T):T:=br (rmB k b 1 16) (κ (false,(0,[]),(k+1,b++[AV.agg [AV.int .i64 a,AV.int .i64 n]]))) δ
def xnp {T:Type} (k:Nat) (a n:Int) (b:LA) (δ:T) (κ:Bool×(Nat×LA)×(Nat×LA)->T):T:=br (decide ((↑k:Int)>0)) (br (decide (0<=i64.wrap ((↑k:Int) - 1))&&decide (i64.wrap ((↑k:Int) - 1)<(↑k:Int))) (br (decide (0+(i64.wrap ((↑k:Int) - 1)).toNat<b.length)&&xKF (Sh.int .i64) ((b.getD (0+(i64.wrap ((↑k:Int) - 1)).toNat) .top).cells.getD 1 .top)) (br (((b.getD (0+(i64.wrap ((↑k:Int) - 1)).toNat) .top).cells.getD 1 .top).toInt==n) (κ (true,(k,b),(0,[]))) (xh8 k a n b δ κ)) δ) δ) (xh8 k a n b δ κ)
def xqi (k:Nat) (a n:Int) (b:LA):=xnp k a n b none some
def xjA {T:Type} (l:LA) (i:Int) (δ:T) (κl:(Int)->T) (κr:(Bool×(Bool)×(Unit))->T):T:=br (decide (i<l.length)) (br (ixI l i) (br (ixS l i (Sh.list 3) 0) (br (decide ((↑(gC l i 0).toList.length:Int)>60)) (κr (true,(false),())) (κl (i64.wrap (i+1)))) δ) δ) (κr (false,false,()))
def xcE (l:LA):StT (Int) (Bool×(Bool)×(Unit)):=fun (i)=>xjA l i none inL inR
def xqm:=xtk.l 23 0 [] [] Tryz.f27 0 lk0 [0,5] [4] [] (q2 (qL 3) qI) xLq (fun (l,i,_) _=>(xcE l,(i),fun p=>(.node p.1 (.leaf .ret [AV.bool p.2.1] []) (.leaf (.exit 0) [.top] [])))) (false,false,()) fun (l,_,_) _ (i)=>(((l,i,()),()),xjA l i none)
def xqV {T:Type} (l:LA) (a:Int) (δ:T) (κ:Bool->T):T:=br (decide ((↑l.length:Int)>a)) (κ (false)) (br ((Iter (xcE l) 0).isSome) (br (((Iter (xcE l) 0).getD (false,false,())).fst) (κ (((Iter (xcE l) 0).getD (false,false,())).snd.fst)) (κ (true))) δ)
def xql (l:LA) (a:Int):=xqV l a none some
def xDd:EO:=xtk.f Tryz.func27 23 0 [] [(4,xqm.lp)] (lk1 xqm.ok) (u2 (uL 3) uI) (fun (l,a,_) _=>xqV l a) (fun _ p=>AV.bool p) false
def xkq {T:Type} (l:LA) (t:Int) (b:Nat) (i:Int) (a:LA) (δ:T) (κl:(Nat×Int×LA)->T) (κr:(Nat×LA)->T):T:=br (decide (i<l.length)) (br (ixI l i) (br (ixT l i 3 [Sh.int .i64,Sh.int .i64] 1) (br (xgU (gC l i 1).toInt (gC l i 2).toInt t) (br (ixI l i) (br (ixS l i (Sh.list 3) 0) (br (rmB b a 1 24) (κl (b+1,i64.wrap (i+1),a++[AV.list 3 (gC l i 0).toList])) δ) δ) δ) (κl (b,i64.wrap (i+1),a))) δ) δ) (κr (b,a))
def xd7 (l:LA) (t:Int):StT (Nat×Int×LA) (Nat×LA):=fun (b,i,a)=>xkq l t b i a none inL inR
def xrj:=xDd.l 30 0 [] [] Tryz.f23 0 lk0 [0,1,5,6] [5] [(5,1,34)] (q4 (qL 3) qI (xLB 0 0 0) qI) (q1 (qB 0 1 34 xLs)) (fun (l,t,b,i,_) (a,_)=>(xd7 l t,(b,i,a),fun p=>(.leaf (.exit 0) [AV.osl 0 0 0 p.1] [bF 0 1 34 p.2]))) (0,[]) fun (l,t,_,_,_) _ (b,i,a)=>(((l,t,b,i,()),(a,())),xkq l t b i a none)
def xqU (l:LA) (t:Int):=(Iter (xd7 l t) (0,0,[])).getD (0,[])
def xqS (l:LA) (t:Int):=(xqU l t).fst
def xqT (l:LA) (t:Int):=(xqU l t).snd
def xqR (l:LA) (t:Int):=xrR (List.take (xqS l t) (List.drop 0 (xqT l t)))
def xrW {T:Type} (l:LA) (t:Int) (δ:T) (κ:LA->T):T:=br ((Iter (xd7 l t) (0,0,[])).isSome) (br (decide (0+xqS l t<=(xqT l t).length)&&true) (br ((xqR l t).isSome) (κ ((xqR l t).getD [])) δ) δ) δ
def xrV (l:LA) (t:Int):=xrW l t none some
def xHy:EO:=xDd.f Tryz.func23 30 0 [] [(3,xrj.lp)] (lk1 xrj.ok) (u2 (uL 3) uI) (fun (l,t,_) _=>xrW l t) (fun _ p=>AV.list 1 p) []
def xC2:Int×Int×List UInt8:=((0,0,[]))
def xAp {T:Type} (δ:T) (κ:Int×Int×List UInt8->T):T:=κ (0,0,[])
def xHf:EO:=xy2.fT Tryz.func119 2 0 [] [] lk0 (fun _=>xAp none) xLr (fun _=>xC2) (fun _ p=>(AV.agg [AV.int .i64 p.1,AV.int .i64 p.2.1,AV.str p.2.2]))
def xr6 {T:Type} (a:LA) (i:Int) (δ:T) (κ:Int×Int×List UInt8->T):T:=br (decide (i<0)) (κ (0,0,[])) (br (decide (i>=a.length)) (κ (0,0,[])) (br (ixI a i) (br (ixT a i 3 [Sh.int .i64,Sh.int .i64,Sh.str] 0) (κ ((gC a i 0).toInt,(gC a i 1).toInt,(gC a i 2).toStr)) δ) δ))
def xr5 (a:LA) (i:Int):=xr6 a i none some
def xC7:EO:=xHf.f Tryz.func90 18 0 [] [] lk0 (u2 (uL 3) uI) (fun (a,i,_) _=>xr6 a i) (fun _ p=>AV.agg [AV.int .i64 p.1,AV.int .i64 p.2.1,AV.str p.2.2]) (0,0,[])
def xhY (a b:LA) (c:Int):=(xr5 a (gC b c 0).toInt).getD (0,0,[])
def xhX (a b:LA) (c:Int):=(xhY a b c).snd
def xiJ {T:Type} (e c:LA) (f:Int) (d:Nat) (a:Int) (b:LA) (δ:T) (κl:(Nat×Int×LA)->T) (κr:(Nat×LA)->T):T:=br (decide (a<f)) (br (ixI c a) (br (ixS c a (Sh.int .i64) 0) (br ((xr5 e (gC c a 0).toInt).isSome) (br (rmB d b 1 32) (κl (d+1,i64.wrap (a+1),b++[AV.agg [AV.int .i64 (xhY e c a).fst,AV.int .i64 (xhX e c a).fst,AV.str (xhX e c a).snd]])) δ) δ) δ) δ) (κr (d,b))
def xdd (c d:LA) (e:Int):StT (Nat×Int×LA) (Nat×LA):=fun (b,f,a)=>xiJ c d e b f a none inL inR
def xpV:=xC7.l 25 0 [] [] Tryz.f62 0 lk0 [0,5,11,12,13] [5] [(5,3,64)] (q5 (qL 3) (xLB 0 0 0) (qL 1) qI qI) (q1 (qB 0 3 64 xLs)) (fun (c,b,d,e,f,_) (a,_)=>(xdd c d e,(b,f,a),fun p=>(.leaf (.exit 0) [AV.osl 0 0 0 p.1] [bF 0 3 64 p.2]))) (0,[]) fun (c,_,d,e,_,_) _ (b,f,a)=>(((c,b,d,e,f,()),(a,())),xiJ c d e b f a none)
def xor (a l:LA):=(Iter (xdd a l (↑l.length:Int)) (0,0,[])).getD (0,[])
def xoo (a l:LA):=(xor a l).fst
def xoq (a l:LA):=(xor a l).snd
def xpW {T:Type} (a l:LA) (δ:T) (κ:LA->T):T:=br (decide (32*(↑l.length:Int)<=281474976710656)&&decide ((↑l.length:Int)<=4611686018427387904)) (br ((Iter (xdd a l (↑l.length:Int)) (0,0,[])).isSome) (br (decide (0+xoo a l<=(xoq a l).length)&&true) (κ (List.take (xoo a l) (List.drop 0 (xoq a l)))) δ) δ) δ
def xoT (a l:LA):=xpW a l none some
def xHg:EO:=xC7.f Tryz.func62 25 0 [] [(3,xpV.lp)] (lk1 xpV.ok) (u2 (uL 3) (uL 1)) (fun (a,l,_) _=>xpW a l) (fun _ p=>AV.list 3 p) []
def xpJ {T:Type} (f:List UInt8) (c a d e b:LA) (δ:T) (κ:LA->T):T:=br ((xoT b a).isSome) (κ ((xoT b a).getD [])) δ
def xdw (e:List UInt8) (b a c d f:LA):=xpJ e b a c d f none some
def xAh:LA->Option (Bool×AV):=fnO (u2 (xLG (u5 (sEq pStr) (uL 3) (uL 1) (uL 2) (uL 7))) (uL 3)) (fun ((e,b,a,c,d,_),f,_) _=>xpJ e b a c d f) (fun _ p=>AV.list 3 p) []
theorem xAg:OcOk P0 xLn 34 xAh:=fnC xHg.ok Tryz.func34 9 0 [] [] lk0
def xe9 {T:Type} (a:List UInt8) (i:Int) (δ:T) (κl:(Int)->T) (κr:(Bool×(Bool)×(Unit))->T):T:=br (decide (i<a.length)) (br (decide (0<=i)&&decide (i<a.length)) (br (decide ((↑(a.getD i.toNat (0:UInt8)).toNat:Int)<32)) (κr (true,(false),())) (br (decide (0<=i)&&decide (i<a.length)) (br (decide ((↑(a.getD i.toNat (0:UInt8)).toNat:Int)>126)) (κr (true,(false),())) (κl (i64.wrap (i+1)))) δ)) δ) (κr (false,false,()))
def xa5 (a:List UInt8):StT (Int) (Bool×(Bool)×(Unit)):=fun (i)=>xe9 a i none inL inR
def xlb:=xtk.l 20 0 [] [] Tryz.f128 0 lk0 [0,3] [2] [] (q2 pStr qI) xLq (fun (a,i,_) _=>(xa5 a,(i),fun p=>(.node p.1 (.leaf .ret [AV.bool p.2.1] []) (.leaf (.exit 0) [.top] [])))) (false,false,()) fun (a,_,_) _ (i)=>(((a,i,()),()),xe9 a i none)
def xjT {T:Type} (a:List UInt8) (δ:T) (κ:Bool->T):T:=br ((Iter (xa5 a) 0).isSome) (br (((Iter (xa5 a) 0).getD (false,false,())).fst) (κ (((Iter (xa5 a) 0).getD (false,false,())).snd.fst)) (κ (true))) δ
def xiA (a:List UInt8):=xjT a none some
def xDi:EO:=xtk.f Tryz.func128 20 0 [] [(2,xlb.lp)] (lk1 xlb.ok) (u1 (sEq pStr)) (fun (a,_) _=>xjT a) (fun _ p=>AV.bool p) false
def xn5 {T:Type} (c a:Int) (b:List UInt8) (δ:T) (κ:Bool->T):T:=br (c==0) (br (a==0) (κ (b==[])) (κ (false))) (br (c==1) (br (b==[]) (br (decide (a>=(-1125899906842624))) (κ (decide (a<=1125899906842624))) (κ (false))) (κ (false))) (br (c==2) (br (a==0) (br (decide ((↑b.length:Int)<=200)) (br ((xiA b).isSome) (κ ((xiA b).getD false)) δ) (κ (false))) (κ (false))) (br (c==3) (br (b==[]) (br (a==0) (κ (true)) (κ (a==1))) (κ (false))) (κ (false)))))
def xkf (a b:Int) (c:List UInt8):=xn5 a b c none some
def xyL:LA->Option (Bool×AV):=fnO (u1 (xLG (u3 uI uI (sEq pStr)))) (fun ((a,b,c,_),_) _=>xn5 a b c) (fun _ p=>AV.bool p) false
theorem xsg:OcOk P0 xLn 108 xyL:=fnC xDi.ok Tryz.func108 61 0 [] [] lk0
def xHB:EO:=xDi.w xsg
def xif (a:Int):Int×Int:=(br (a==1) ((0,0)) (br (a==2) ((0,0)) (br (a==4) ((1,1)) (br (a==18) ((1,1)) (br (a==20) ((1,1)) (br (a==21) ((1,1)) (br (a==5) ((2,1099511627776)) (br (a==6) ((2,1099511627776)) (br (a==7) ((2,2)) (br (a==8) ((2,2)) (br (a==9) ((2,2)) (br (a==10) ((2,2)) (br (a==11) ((2,2)) (br (a==12) ((2,2)) (br (a==13) ((2,2)) (br (a==14) ((2,2)) (br (a==15) ((2,2)) (br (a==16) ((2,2)) (br (a==17) ((2,2)) (br (a==19) ((2,2)) (br (a==22) ((3,3)) (br (a==23) ((1,1099511627776)) (br (a==24) ((4,4)) (((-1),0)))))))))))))))))))))))))
def xyP {T:Type} (a:Int) (δ:T) (κ:Int×Int->T):T:=br (a==1) (κ (0,0)) (br (a==2) (κ (0,0)) (br (a==4) (κ (1,1)) (br (a==18) (κ (1,1)) (br (a==20) (κ (1,1)) (br (a==21) (κ (1,1)) (br (a==5) (κ (2,1099511627776)) (br (a==6) (κ (2,1099511627776)) (br (a==7) (κ (2,2)) (br (a==8) (κ (2,2)) (br (a==9) (κ (2,2)) (br (a==10) (κ (2,2)) (br (a==11) (κ (2,2)) (br (a==12) (κ (2,2)) (br (a==13) (κ (2,2)) (br (a==14) (κ (2,2)) (br (a==15) (κ (2,2)) (br (a==16) (κ (2,2)) (br (a==17) (κ (2,2)) (br (a==19) (κ (2,2)) (br (a==22) (κ (3,3)) (br (a==23) (κ (1,1099511627776)) (br (a==24) (κ (4,4)) (κ ((-1),0))))))))))))))))))))))))
def xHC:EO:=xHB.fT Tryz.func149 35 0 [7000000] [] lk0 (fun (a,_)=>xyP a none) (u1 uI) (fun (a,_)=>xif a) (fun _ p=>(AV.tuple [AV.int .i64 p.1,AV.int .i64 p.2]))
def xmN {T:Type} (a f b c:Int) (d g:List UInt8) (e:LA) (δ:T) (κ:Bool->T):T:=br (decide ((xif a).fst<0)) (κ (false)) (br (decide ((↑e.length:Int)<(xif a).fst)) (κ (false)) (br (decide ((↑e.length:Int)>(xif a).snd)) (κ (false)) (br (!g==[]) (κ (false)) (br (a==1) (br (f==0) (br ((xkf b c d).isSome) (κ ((xkf b c d).getD false)) δ) (κ (false))) (br (a==2) (κ (b==0&&(c==0&&(d==[]&&true)))) (br (a==24) (br (b==0&&(c==0&&(d==[]&&true))) (br (decide (f>=0)) (κ (decide (f<13))) (κ (false))) (κ (false))) (br (f==0) (κ (b==0&&(c==0&&(d==[]&&true)))) (κ (false)))))))))
def xlx (b g c d:Int) (e f:List UInt8) (a:LA):=xmN b g c d e f a none some
def xDj:EO:=xHC.f Tryz.func150 75 0 [] [] lk0 (u1 (xLG (u7 uI uI uI uI (sEq pStr) (sEq pStr) (uL 7)))) (fun ((b,h,c,d,e,g,a,_),_) _=>xmN b h c d e g a) (fun _ p=>AV.bool p) false
def xjz {T:Type} (l:LA) (a i:Int) (δ:T) (κl:(Int)->T) (κr:(Bool×(Bool)×(Unit))->T):T:=br (decide (i<l.length)) (br (ixI l i) (br (ixS l i (Sh.int .i64) 0) (br ((gC l i 0).toInt != a) (br (ixI l i) (br (ixS l i (Sh.int .i64) 0) (br ((gC l i 0).toInt != 0) (κr (true,(false),())) (κl (i64.wrap (i+1)))) δ) δ) (κl (i64.wrap (i+1)))) δ) δ) (κr (false,false,()))
def xcD (l:LA) (a:Int):StT (Int) (Bool×(Bool)×(Unit)):=fun (i)=>xjz l a i none inL inR
def xqj:=xDj.l 25 0 [] [] Tryz.f175 0 lk0 [0,1,5] [4] [] (q3 (qL 1) qI qI) xLq (fun (l,a,i,_) _=>(xcD l a,(i),fun p=>(.node p.1 (.leaf .ret [AV.bool p.2.1] []) (.leaf (.exit 0) [.top] [])))) (false,false,()) fun (l,a,_,_) _ (i)=>(((l,a,i,()),()),xjz l a i none)
def xqM {T:Type} (l:LA) (a:Int) (δ:T) (κ:Bool->T):T:=br ((Iter (xcD l a) 0).isSome) (br (((Iter (xcD l a) 0).getD (false,false,())).fst) (κ (((Iter (xcD l a) 0).getD (false,false,())).snd.fst)) (κ (true))) δ
def xcH (l:LA) (a:Int):=xqM l a none some
def xDk:EO:=xDj.f Tryz.func175 25 0 [] [(2,xqj.lp)] (lk1 xqj.ok) (u2 (uL 1) uI) (fun (l,a,_) _=>xqM l a) (fun _ p=>AV.bool p) false
def xhC (l:LA) (i:Int):=ixI l i
def xhD (l:LA) (i:Int):=decide (i.toNat<l.length)&&xKF (Sh.int .i64) (gC l i 0)
def xgL {T:Type} (l:LA) (i:Int) (δ:T) (κl:(Int×Int)->T):T:=br (xhC l i) (br (xhD l i) (κl ((gC l i 0).toInt,i64.wrap (i+1))) δ) δ
def xiD {T:Type} (l:LA) (k i:Int) (δ:T) (κl:(Int×Int)->T) (κr:(Bool×(Int×Bool×Int)×(Int))->T):T:=br (decide (i<l.length)) (br (xhC l i) (br (xhD l i) (br ((gC l i 0).toInt==0) (κl (k,i64.wrap (i+1))) (br (k != 0) (br (xhC l i) (br (xhD l i) (br (k != (gC l i 0).toInt) (κr (true,(0,false,k),0)) (xgL l i δ κl)) δ) δ) (xgL l i δ κl))) δ) δ) (κr (false,(0,false,0),(k)))
def xc7 (l:LA):StT (Int×Int) (Bool×(Int×Bool×Int)×(Int)):=fun (k,i)=>xiD l k i none inL inR
def xpv:=xDk.l 32 0 [] [] Tryz.f176 0 lk0 [0,4,5] [2,3,4] [] (q3 (qL 1) qI qI) xLq (fun (l,k,i,_) _=>(xc7 l,(k,i),fun p=>(.node p.1 (.leaf .ret [AV.int .i64 p.2.1.1,AV.bool p.2.1.2.1,AV.int .i64 p.2.1.2.2] []) (.leaf (.exit 0) [.top,.top,AV.int .i64 p.2.2] [])))) (false,(0,false,0),0) fun (l,_,_,_) _ (k,i)=>(((l,k,i,()),()),xiD l k i none)
def xoc (l:LA):=(Iter (xc7 l) (0,0)).getD (false,(0,false,0),0)
def xob (l:LA):=(xoc l).snd
def xoa (l:LA):=(xob l).fst
def xpw {T:Type} (l:LA) (δ:T) (κ:Int×Bool->T):T:=br ((Iter (xc7 l) (0,0)).isSome) (br ((xoc l).fst) (κ ((xoa l).fst,(xoa l).snd.fst)) (κ ((xob l).snd,true))) δ
def xdv (l:LA):=xpw l none some
def xHD:EO:=xDk.f Tryz.func176 32 0 [] [(3,xpv.lp)] (lk1 xpv.ok) (u1 (uL 1)) (fun (l,_) _=>xpw l) (fun _ p=>AV.tuple [AV.int .i64 p.1,AV.bool p.2]) (0,false)
def xcW {T:Type} (l:LA) (δ:T) (κ:Int×Bool->T):T:=br ((xdv l).isSome) (κ (3,((xdv l).getD (0,false)).snd)) δ
def xcX {T:Type} (l:LA) (δ:T) (κ:Int×Bool->T):T:=br ((xcH l 1).isSome) (κ (1,(xcH l 1).getD false)) δ
def xhE {T:Type} (l:LA) (δ:T) (κ:Int×Bool->T):T:=br ((xcH l 3).isSome) (κ (3,(xcH l 3).getD false)) δ
def xmZ {T:Type} (a c d f:Int) (g h:List UInt8) (e l b:LA) (δ:T) (κ:Int×Bool->T):T:=br (a==1) (κ (d,true)) (br (a==2) (br (ixI b c) (br (ixS b c (Sh.int .i64) 0) (κ ((gC b c 0).toInt,true)) δ) δ) (br (a==4) (xhE l δ κ) (br (a==5) (xhE l δ κ) (br (a==6) (xhE l δ κ) (br (a==7) (xcW l δ κ) (br (a==8) (xcW l δ κ) (br (a==9) (xcW l δ κ) (br (a==10) (xcW l δ κ) (br (a==11) (xcW l δ κ) (br (a==12) (xcW l δ κ) (br (a==13) (xcX l δ κ) (br (a==14) (xcX l δ κ) (br (a==15) (xcX l δ κ) (br (a==16) (xcX l δ κ) (br (a==17) (xcX l δ κ) (br (a==18) (xcX l δ κ) (br (a==19) (br ((xcH l 2).isSome) (κ (2,(xcH l 2).getD false)) δ) (br (a==20) (br ((xcH l 2).isSome) (κ (1,(xcH l 2).getD false)) δ) (br (a==21) (κ (3,true)) (br (a==22) (br (decide (1<=(↑l.length:Int))) (br ((xdv (List.take (l.length - 1) (List.drop 1 l))).isSome) (br (((xdv (List.take (l.length - 1) (List.drop 1 l))).getD (0,false)).snd) (br (decide (1<=(↑l.length:Int))&&true) (br ((xcH (List.take 1 (List.drop 0 l)) 3).isSome) (κ (((xdv (List.take (l.length - 1) (List.drop 1 l))).getD (0,false)).fst,(xcH (List.take 1 (List.drop 0 l)) 3).getD false)) δ) δ) (κ (((xdv (List.take (l.length - 1) (List.drop 1 l))).getD (0,false)).fst,false))) δ) δ) (br (a==23) (br ((xdv l).isSome) (κ (((xdv l).getD (0,false)).fst,((xdv l).getD (0,false)).snd)) δ) (br ((xcH l 1).isSome) (κ (3,(xcH l 1).getD false)) δ))))))))))))))))))))))
def xgY (c h d e:Int) (f g:List UInt8) (a l b:LA):=xmZ c h d e f g a l b none some
def xra:EO:=xHD.f Tryz.func151 87 0 [7000000] [] lk0 (u3 (xLG (u7 uI uI uI uI (sEq pStr) (sEq pStr) (uL 7))) (uL 1) (uL 1)) (fun ((c,i,d,e,g,h,a,_),l,b,_) _=>xmZ c i d e g h a l b) (fun _ p=>AV.tuple [AV.int .i64 p.1,AV.bool p.2]) (0,false)
def xd5 (R:Int->Int->Int->Int->List UInt8->List UInt8->LA->Option (Int)):LA->Option (Bool×AV):=ocOf (xLp (xLG (xLp (sEq (pInt .i64)) (xLp (sEq (pInt .i64)) (xLp (sEq (pInt .i64)) (xLp (sEq (pInt .i64)) (xLp (sEq pStr) (xLp (sEq pStr) (xLp (xLF 7 xLs) xLr)))))))) xLr) fun ((b,(i,(c,(d,(e,(f,(a,_))))))),_)=>((R b i c d e f a).isSome,AV.int .i64 ((R b i c d e f a).getD 0))
theorem xsu (k:Go.FuncId) (R:Nat->Int->Int->Int->Int->List UInt8->List UInt8->LA->Option (Int)) (g:∀ n,OcOk P0 xLn k (xd5 (R n))):OcOk P0 xLn k (xd5 (fun b i c d e f a=>limN fun n=>R n b i c d e f a)):=xzZ g fun v h=>by
 obtain ⟨⟨b,⟨i,⟨c,⟨d,⟨e,⟨f,⟨a,_⟩⟩⟩⟩⟩⟩⟩,_⟩:=v;obtain ⟨n,j⟩:=xwV (R:=fun n=>R n b i c d e f a) h
 exact ⟨n,congrArg (fun o=>(Option.isSome o,(AV.int .i64 (Option.getD o 0):AV))) j⟩
def xdB (R:Int->Int->Int->Int->List UInt8->List UInt8->LA->Option (Int)):Prop:=OcOk P0 xLn 126 (xd5 R)
def xfr (R:Int->Int->Int->Int->List UInt8->List UInt8->LA->Option (Int)):Env:=(xra.E.with 126 (xd5 R)).fn 22 0 (lsOf []) (xK2 [])
abbrev xjx (R:Int->Int->Int->Int->List UInt8->List UInt8->LA->Option (Int)):Prop:=xdB R
theorem xtB (R:Int->Int->Int->Int->List UInt8->List UInt8->LA->Option (Int)) (a:xjx R):xKH P0 (xLn.at 0) (xfr R):=(xra.ok.with a).fn
theorem xqO (R:Int->Int->Int->Int->List UInt8->List UInt8->LA->Option (Int)) (a:xjx R):LoOk P0 (xLn.at (xfr R).pin) (xfr R) (xKL Tryz.f126 0):=xhw (by kernel_rfl)
def xj2 (R:Int->Int->Int->Int->List UInt8->List UInt8->LA->Option Int) (i:Int) (a:LA):=R (gC a i 0).toInt (gC a i 1).toInt (gC a i 2).toInt (gC a i 3).toInt (gC a i 4).toStr (gC a i 5).toStr (gC a i 6).toList
def xj1 (R:Int->Int->Int->Int->List UInt8->List UInt8->LA->Option Int) (i:Int) (a:LA):=(xj2 R i a).getD 0
def xfA {T:Type} (R:Int->Int->Int->Int->List UInt8->List UInt8->LA->Option Int) (n i b c d e:Int) (f g:List UInt8) (a:LA) (δ:T) (κl:(Int×Int×Int×Int×Int×Int×List UInt8×List UInt8×LA)->T) (κr:(Int)->T):T:=br (decide (i<a.length)) (br (ixI a i) (br (ixT a i 7 [Sh.int .i64,Sh.int .i64,Sh.int .i64,Sh.int .i64,Sh.str,Sh.str,Sh.list 7] 0) (br ((xj2 R i a).isSome) (κl (if xj1 R i a>n then xj1 R i a else n,i64.wrap (i+1),b,c,d,e,f,g,a)) δ) δ) δ) (κr (n))
def xbu (R:Int->Int->Int->Int->List UInt8->List UInt8->LA->Option Int):StT (Int×Int×Int×Int×Int×Int×List UInt8×List UInt8×LA) (Int):=fun (n,i,a,b,c,d,e,f,g)=>xfA R n i a b c d e f g none inL inR
def xcc (R:Int->Int->Int->Int->List UInt8->List UInt8->LA->Option Int):(Int×Int×Int×Int×Int×Int×List UInt8×List UInt8×LA)->LA×List Box:=fun (n,i,a,b,c,d,e,f,g)=>([AV.own 0 0 0 0,AV.int .i64 n,AV.int .i64 i],[⟨0,7,153,[AV.agg [AV.int .i64 a,AV.int .i64 b,AV.int .i64 c,AV.int .i64 d,AV.str e,AV.str f,AV.list 7 g]],false,true⟩])
def xc9 (R:Int->Int->Int->Int->List UInt8->List UInt8->LA->Option Int):(Int)->LR:=fun p=>(.leaf (.exit 0) [AV.int .i64 p] [])
abbrev xpB (R:Int->Int->Int->Int->List UInt8->List UInt8->LA->Option Int) (a:LA) (H:List Box):=XR P0 (xfr R) [1,3,4] [3] [] (xKL Tryz.f126 0) a H
theorem xuG (R:Int->Int->Int->Int->List UInt8->List UInt8->LA->Option Int) (s:Int×Int×Int×Int×Int×Int×List UInt8×List UInt8×LA):Enc (encR (xcc R) (xc9 R)) (xbu R s) (xpB R (xcc R s).1 (xcc R s).2):=by
 obtain ⟨n,i,a,b,c,d,e,f,g⟩:=s;have h:xpB R (xcc R (n,i,a,b,c,d,e,f,g)).1 (xcc R (n,i,a,b,c,d,e,f,g)).2=xfA R n i a b c d e f g none (fun s=>some (encR (xcc R) (xc9 R) (.inl s))) (fun p=>some (encR (xcc R) (xc9 R) (.inr p))):=by kernel_rfl
 rw [h];unfold xbu xfA;repeat' (first|refine Enc.br ?_ ?_|exact Enc.none|exact Enc.some rfl)
def xj0 (R:Int->Int->Int->Int->List UInt8->List UInt8->LA->Option Int):Lp:=lpOf [1,3,4] [3] [] (xLo (xLC 0 0 0 0) (xLo (pInt .i64) (xLo (pInt .i64) xLq))) (xLo (xLE 0 7 153 false true (xLo (xLD (xLo (pInt .i64) (xLo (pInt .i64) (xLo (pInt .i64) (xLo (pInt .i64) (xLo pStr (xLo pStr (xLo (xLH 7 xLs) xLq)))))))) xLq)) xLq) fun (_,(n,(i,_))) (((a,(b,(c,(d,(e,(f,(g,_))))))),_),_)=>((Iter (xbu R) (n,i,a,b,c,d,e,f,g)).isSome,xc9 R ((Iter (xbu R) (n,i,a,b,c,d,e,f,g)).getD 0))
theorem xs3 (R:Int->Int->Int->Int->List UInt8->List UInt8->LA->Option Int) (a:xjx R):LoopOk P0 (xLn.at (xfr R).pin) (xfr R).nt (xKL Tryz.f126 0) (xj0 R):=xzR fun k l o m=>by
 obtain ⟨_,⟨n,⟨i,_⟩⟩⟩:=k;obtain ⟨⟨⟨b,⟨c,⟨d,⟨e,⟨f,⟨g,⟨h,_⟩⟩⟩⟩⟩⟩⟩,_⟩,_⟩:=l;obtain ⟨j,rfl⟩:=Prod.mk.inj m;exact xrH xKQ (xKR P0 _) rfl (xtB R a) (xqO R a) (xcc R) (xc9 R) (fun p=>by simp only [xc9,LR.eval];first|(simp;done)|(repeat' split<;>simp)) (xuG R) (s:=(n,i,b,c,d,e,f,g,h)) (xa6 j)
def xd4 (R:Int->Int->Int->Int->List UInt8->List UInt8->LA->Option (Int)):Env:=(xra.E.with 126 (xd5 R)).fn 22 0 (lsOf []) (xK2 [(3,xj0 R)])
theorem xtC (R:Int->Int->Int->Int->List UInt8->List UInt8->LA->Option (Int)) (a:xdB R):xKH P0 (xLn.at 0) (xd4 R):=(xra.ok.with a).fn
theorem xrT (R:Int->Int->Int->Int->List UInt8->List UInt8->LA->Option (Int)) (c:xdB R):LoOk P0 (xLn.at (xd4 R).pin) (xd4 R) (Tryz.f126.body.getD .skip):=xpc (ls:=[xKL Tryz.f126 0]) (by kernel_rfl) (fun l b lp a=>by
 simp only [zB,List.not_mem_nil,or_false] at b;rcases b with rfl
 . rw [show (xd4 R).lp (xKV (xKL Tryz.f126 0))=some (xj0 R) by kernel_rfl] at a
   simp only [z1] at a;subst a;exact xs3 R c)
def xmY (R:Int->Int->Int->Int->List UInt8->List UInt8->LA->Option Int) (b i c d:Int) (e f:List UInt8) (a:LA):=Iter (xbu R) (0,0,b,i,c,d,e,f,a)
def xko {T:Type} (R:Int->Int->Int->Int->List UInt8->List UInt8->LA->Option Int) (b i c d:Int) (e f:List UInt8) (a:LA) (δ:T) (κ:Int->T):T:=br ((xmY R b i c d e f a).isSome) (κ (i64.wrap ((xmY R b i c d e f a).getD 0+1))) δ
def xgB (R:Int->Int->Int->Int->List UInt8->List UInt8->LA->Option Int) (b i c d:Int) (e f:List UInt8) (a:LA):=xko R b i c d e f a none some
theorem xyV (R:Int->Int->Int->Int->List UInt8->List UInt8->LA->Option Int) (b i c d:Int) (e f:List UInt8) (a:LA):Enc (fun (p:Int)=>((AV.int .i64 p):AV)) (xgB R b i c d e f a) (XF P0 (xd4 R) Tryz.f126 (Tryz.f126.body.getD .skip) [AV.agg [AV.int .i64 b,AV.int .i64 i,AV.int .i64 c,AV.int .i64 d,AV.str e,AV.str f,AV.list 7 a]]):=by
 have h:XF P0 (xd4 R) Tryz.f126 (Tryz.f126.body.getD .skip) [AV.agg [AV.int .i64 b,AV.int .i64 i,AV.int .i64 c,AV.int .i64 d,AV.str e,AV.str f,AV.list 7 a]]=xko R b i c d e f a none (fun (p:Int)=>some ((AV.int .i64 p):AV)):=by kernel_rfl
 rw [h];unfold xgB xko;repeat' (first|refine Enc.br ?_ ?_|exact Enc.none|exact Enc.some rfl)
def xyU (R:Int->Int->Int->Int->List UInt8->List UInt8->LA->Option Int):LA->Option (Bool×AV):=ocOf (xLp (xLG (xLp (sEq (pInt .i64)) (xLp (sEq (pInt .i64)) (xLp (sEq (pInt .i64)) (xLp (sEq (pInt .i64)) (xLp (sEq pStr) (xLp (sEq pStr) (xLp (xLF 7 xLs) xLr)))))))) xLr) fun ((b,(i,(c,(d,(e,(f,(a,_))))))),_)=>((xgB R b i c d e f a).isSome,(AV.int .i64 ((xgB R b i c d e f a).getD 0)))
theorem xyT (R:Int->Int->Int->Int->List UInt8->List UInt8->LA->Option Int) (a:xdB R):OcOk P0 xLn 126 (xyU R):=xgT fun e h f=>by
 obtain ⟨⟨j,⟨i,⟨k,⟨l,⟨m,⟨n,⟨g,_⟩⟩⟩⟩⟩⟩⟩,_⟩:=e;obtain ⟨b,c⟩:=Prod.mk.inj f;refine xiZ (p:=(xd4 R).pin) (xk7 xKQ (xKR P0 _) rfl (xtC R a) Tryz.func126 rfl (by kernel_rfl) (xrT R a) ((xyV R _ _ _ _ _ _ _ _ (xa6 (d:=0) b)).trans ?_))
 exact congrArg some c
def xcV:Nat->Int->Int->Int->Int->List UInt8->List UInt8->LA->Option (Int)
 | 0=>fun _ _ _ _ _ _ _=>none
 | fu_+1=>fun b i c d e f a=>xgB (xcV fu_) b i c d e f a
theorem xpA:∀ n,xdB (xcV n)
 | 0=>xgT fun _ _ h=>absurd (Prod.mk.inj h).1 Bool.false_ne_true
 | fu_+1=>fun a r h=>xyT (xcV fu_) (xpA fu_) a r h
def xh9:Int->Int->Int->Int->List UInt8->List UInt8->LA->Option (Int):=fun b i c d e f a=>limN fun n=>xcV n b i c d e f a
theorem xuF:xdB xh9:=xsu 126 xcV xpA
def xuQ:Env:=xra.E.with 126 (xd5 xh9)
theorem xsy:xKH P0 xLn xuQ:=xra.ok.with xuF
def xd3 (R:Int->Int->Int->Int->List UInt8->List UInt8->LA->LA->Option (Int×Int)):LA->Option (Bool×AV):=ocOf (xLp (xLG (xLp (sEq (pInt .i64)) (xLp (sEq (pInt .i64)) (xLp (sEq (pInt .i64)) (xLp (sEq (pInt .i64)) (xLp (sEq pStr) (xLp (sEq pStr) (xLp (xLF 7 xLs) xLr)))))))) (xLp (xLF 1 xLs) xLr)) fun ((b,(i,(c,(d,(e,(f,(a,_))))))),(g,_))=>((R b i c d e f a g).isSome,AV.tuple [AV.int .i64 (((R b i c d e f a g).getD (0,0))).1,AV.int .i64 (((R b i c d e f a g).getD (0,0))).2])
theorem xst (k:Go.FuncId) (R:Nat->Int->Int->Int->Int->List UInt8->List UInt8->LA->LA->Option (Int×Int)) (j:∀ n,OcOk P0 xLn k (xd3 (R n))):OcOk P0 xLn k (xd3 (fun b i c d e f a g=>limN fun n=>R n b i c d e f a g)):=xzZ j fun v h=>by
 obtain ⟨⟨b,⟨i,⟨c,⟨d,⟨e,⟨f,⟨a,_⟩⟩⟩⟩⟩⟩⟩,⟨g,_⟩⟩:=v;obtain ⟨n,l⟩:=xwV (R:=fun n=>R n b i c d e f a g) h
 exact ⟨n,congrArg (fun o=>(Option.isSome o,(AV.tuple [AV.int .i64 ((Option.getD o (0,0))).1,AV.int .i64 ((Option.getD o (0,0))).2]:AV))) l⟩
def xdA (R:Int->Int->Int->Int->List UInt8->List UInt8->LA->LA->Option (Int×Int)):Prop:=OcOk P0 xLn 127 (xd3 R)
def xfq (R:Int->Int->Int->Int->List UInt8->List UInt8->LA->LA->Option (Int×Int)):Env:=(xuQ.with 127 (xd3 R)).fn 75 0 (lsOf []) (xK2 [])
abbrev xjV (R:Int->Int->Int->Int->List UInt8->List UInt8->LA->LA->Option (Int×Int)):Prop:=xdA R
theorem xtz (R:Int->Int->Int->Int->List UInt8->List UInt8->LA->LA->Option (Int×Int)) (a:xjV R):xKH P0 (xLn.at 0) (xfq R):=(xsy.with a).fn
theorem xqN (R:Int->Int->Int->Int->List UInt8->List UInt8->LA->LA->Option (Int×Int)) (a:xjV R):LoOk P0 (xLn.at (xfq R).pin) (xfq R) (xKL Tryz.f127 0):=xhw (by kernel_rfl)
def xjZ (R:Int->Int->Int->Int->List UInt8->List UInt8->LA->LA->Option (Int×Int)) (b:LA) (i:Int) (a:LA):Option (Int×Int):=R (gC a i 0).toInt (gC a i 1).toInt (gC a i 2).toInt (gC a i 3).toInt (gC a i 4).toStr (gC a i 5).toStr (gC a i 6).toList b
def xjY (R:Int->Int->Int->Int->List UInt8->List UInt8->LA->LA->Option (Int×Int)) (a:LA) (i:Int) (b:LA):Int×Int:=(xjZ R a i b).getD (0,0)
def xjX (R:Int->Int->Int->Int->List UInt8->List UInt8->LA->LA->Option (Int×Int)) (a:LA) (i:Int) (b:LA):Int:=(xjY R a i b).snd
def xfz {T:Type} (R:Int->Int->Int->Int->List UInt8->List UInt8->LA->LA->Option (Int×Int)) (b:LA) (d:Nat) (i e f g h:Int) (j k:List UInt8) (a c:LA) (δ:T) (κl:(Nat×Int×Int×Int×Int×Int×List UInt8×List UInt8×LA×LA)->T) (κr:(Bool×(Int×Int×Nat×Int×Int×Int×Int×List UInt8×List UInt8×LA×LA)×(Nat×Int×Int×Int×Int×List UInt8×List UInt8×LA×LA))->T):T:=br (decide (i<a.length)) (br (ixI a i) (br (ixT a i 7 [Sh.int .i64,Sh.int .i64,Sh.int .i64,Sh.int .i64,Sh.str,Sh.str,Sh.list 7] 0) (br ((xjZ R b i a).isSome) (br (xjX R b i a != 0) (κr (true,(0,xjX R b i a,d,e,f,g,h,j,k,a,c),(0,0,0,0,0,[],[],[],[]))) (br (rmB d c 1 8) (κl (d+1,i64.wrap (i+1),e,f,g,h,j,k,a,c++[AV.int .i64 (xjY R b i a).fst])) δ)) δ) δ) δ) (κr (false,(0,0,0,0,0,0,0,[],[],[],[]),(d,e,f,g,h,j,k,a,c)))
def xbt (R:Int->Int->Int->Int->List UInt8->List UInt8->LA->LA->Option (Int×Int)) (a:LA):StT (Nat×Int×Int×Int×Int×Int×List UInt8×List UInt8×LA×LA) (Bool×(Int×Int×Nat×Int×Int×Int×Int×List UInt8×List UInt8×LA×LA)×(Nat×Int×Int×Int×Int×List UInt8×List UInt8×LA×LA)):=fun (c,i,d,e,f,g,h,j,k,b)=>xfz R a c i d e f g h j k b none inL inR
def xcb (R:Int->Int->Int->Int->List UInt8->List UInt8->LA->LA->Option (Int×Int)) (a:LA):(Nat×Int×Int×Int×Int×Int×List UInt8×List UInt8×LA×LA)->LA×List Box:=fun (c,i,d,e,f,g,h,j,k,b)=>([AV.list 1 a,AV.own 0 0 0 0,AV.osl 1 0 0 c,AV.int .i64 i],[⟨0,7,153,[AV.agg [AV.int .i64 d,AV.int .i64 e,AV.int .i64 f,AV.int .i64 g,AV.str h,AV.str j,AV.list 7 k]],false,true⟩,⟨0,1,3,b,false,true⟩])
def xc8 (R:Int->Int->Int->Int->List UInt8->List UInt8->LA->LA->Option (Int×Int)) (a:LA):(Bool×(Int×Int×Nat×Int×Int×Int×Int×List UInt8×List UInt8×LA×LA)×(Nat×Int×Int×Int×Int×List UInt8×List UInt8×LA×LA))->LR:=fun p=>(.node p.1 (.leaf .ret [AV.list 1 a,AV.own 0 0 0 0,AV.int .i64 p.2.1.1,AV.int .i64 p.2.1.2.1,AV.osl 1 0 0 p.2.1.2.2.1] [⟨0,7,153,[AV.agg [AV.int .i64 p.2.1.2.2.2.1,AV.int .i64 p.2.1.2.2.2.2.1,AV.int .i64 p.2.1.2.2.2.2.2.1,AV.int .i64 p.2.1.2.2.2.2.2.2.1,AV.str p.2.1.2.2.2.2.2.2.2.1,AV.str p.2.1.2.2.2.2.2.2.2.2.1,AV.list 7 p.2.1.2.2.2.2.2.2.2.2.2.1]],false,true⟩,⟨0,1,3,p.2.1.2.2.2.2.2.2.2.2.2.2,false,true⟩]) (.leaf (.exit 0) [AV.list 1 a,AV.own 0 0 0 0,.top,.top,AV.osl 1 0 0 p.2.2.1] [⟨0,7,153,[AV.agg [AV.int .i64 p.2.2.2.1,AV.int .i64 p.2.2.2.2.1,AV.int .i64 p.2.2.2.2.2.1,AV.int .i64 p.2.2.2.2.2.2.1,AV.str p.2.2.2.2.2.2.2.1,AV.str p.2.2.2.2.2.2.2.2.1,AV.list 7 p.2.2.2.2.2.2.2.2.2.1]],false,true⟩,⟨0,1,3,p.2.2.2.2.2.2.2.2.2.2,false,true⟩]))
abbrev xpz (R:Int->Int->Int->Int->List UInt8->List UInt8->LA->LA->Option (Int×Int)) (a:LA) (H:List Box):=XR P0 (xfq R) [1,2,8,9] [1,2,4,5,8] [(8,1,3)] (xKL Tryz.f127 0) a H
theorem xuE (R:Int->Int->Int->Int->List UInt8->List UInt8->LA->LA->Option (Int×Int)) (a:LA) (s:Nat×Int×Int×Int×Int×Int×List UInt8×List UInt8×LA×LA):Enc (encR (xcb R a) (xc8 R a)) (xbt R a s) (xpz R (xcb R a s).1 (xcb R a s).2):=by
 obtain ⟨c,i,d,e,f,g,j,k,l,b⟩:=s;have h:xpz R (xcb R a (c,i,d,e,f,g,j,k,l,b)).1 (xcb R a (c,i,d,e,f,g,j,k,l,b)).2=xfz R a c i d e f g j k l b none (fun s=>some (encR (xcb R a) (xc8 R a) (.inl s))) (fun p=>some (encR (xcb R a) (xc8 R a) (.inr p))):=by kernel_rfl
 rw [h];unfold xbt xfz;repeat' (first|refine Enc.br ?_ ?_|exact Enc.none|exact Enc.some rfl)
def xjW (R:Int->Int->Int->Int->List UInt8->List UInt8->LA->LA->Option (Int×Int)):Lp:=lpOf [1,2,8,9] [1,2,4,5,8] [(8,1,3)] (xLo (xLH 1 xLs) (xLo (xLC 0 0 0 0) (xLo (xLB 1 0 0) (xLo (pInt .i64) xLq)))) (xLo (xLE 0 7 153 false true (xLo (xLD (xLo (pInt .i64) (xLo (pInt .i64) (xLo (pInt .i64) (xLo (pInt .i64) (xLo pStr (xLo pStr (xLo (xLH 7 xLs) xLq)))))))) xLq)) (xLo (xLE 0 1 3 false true xLs) xLq)) fun (a,(_,(c,(i,_)))) (((d,(e,(f,(g,(h,(j,(k,_))))))),_),(b,_))=>((Iter (xbt R a) (c,i,d,e,f,g,h,j,k,b)).isSome,xc8 R a ((Iter (xbt R a) (c,i,d,e,f,g,h,j,k,b)).getD (false,(0,0,0,0,0,0,0,[],[],[],[]),(0,0,0,0,0,[],[],[],[]))))
theorem xs2 (R:Int->Int->Int->Int->List UInt8->List UInt8->LA->LA->Option (Int×Int)) (c:xjV R):LoopOk P0 (xLn.at (xfq R).pin) (xfq R).nt (xKL Tryz.f127 0) (xjW R):=xzR fun n o r q=>by
 obtain ⟨a,⟨_,⟨d,⟨i,_⟩⟩⟩⟩:=n;obtain ⟨⟨⟨e,⟨f,⟨g,⟨h,⟨j,⟨k,⟨l,_⟩⟩⟩⟩⟩⟩⟩,_⟩,⟨b,_⟩⟩:=o;obtain ⟨m,rfl⟩:=Prod.mk.inj q;exact xrH xKQ (xKR P0 _) rfl (xtz R c) (xqN R c) (xcb R a) (xc8 R a) (fun p=>by simp only [xc8,LR.eval];first|(simp;done)|(repeat' split<;>simp)) (xuE R a) (s:=(d,i,e,f,g,h,j,k,l,b)) (xa6 m)
def xd2 (R:Int->Int->Int->Int->List UInt8->List UInt8->LA->LA->Option (Int×Int)):Env:=(xuQ.with 127 (xd3 R)).fn 75 0 (lsOf []) (xK2 [(10,xjW R)])
theorem xtA (R:Int->Int->Int->Int->List UInt8->List UInt8->LA->LA->Option (Int×Int)) (a:xdA R):xKH P0 (xLn.at 0) (xd2 R):=(xsy.with a).fn
theorem xrS (R:Int->Int->Int->Int->List UInt8->List UInt8->LA->LA->Option (Int×Int)) (c:xdA R):LoOk P0 (xLn.at (xd2 R).pin) (xd2 R) (Tryz.f127.body.getD .skip):=xpc (ls:=[xKL Tryz.f127 0]) (by kernel_rfl) (fun l b lp a=>by
 simp only [zB,List.not_mem_nil,or_false] at b;rcases b with rfl
 . rw [show (xd2 R).lp (xKV (xKL Tryz.f127 0))=some (xjW R) by kernel_rfl] at a
   simp only [z1] at a;subst a;exact xs2 R c)
def xl5 (R:Int->Int->Int->Int->List UInt8->List UInt8->LA->LA->Option (Int×Int)) (b i c d:Int) (e f:List UInt8) (a g:LA):Option
 (Bool ×
  (Int×Int×Nat×Int×Int×Int×Int×List UInt8×List UInt8×LA×LA) ×
   Nat×Int×Int×Int×Int×List UInt8×List UInt8×LA×LA):=Iter (xbt R g) (0,0,b,i,c,d,e,f,a,[])
def xl4 (R:Int->Int->Int->Int->List UInt8->List UInt8->LA->LA->Option (Int×Int)) (b i c d:Int) (e f:List UInt8) (a g:LA):Bool ×
 (Int×Int×Nat×Int×Int×Int×Int×List UInt8×List UInt8×LA×LA) ×
  Nat×Int×Int×Int×Int×List UInt8×List UInt8×LA×LA:=(xl5 R b i c d e f a g).getD (false,(0,0,0,0,0,0,0,[],[],[],[]),0,0,0,0,0,[],[],[],[])
def xl3 (R:Int->Int->Int->Int->List UInt8->List UInt8->LA->LA->Option (Int×Int)) (b i c d:Int) (e f:List UInt8) (a g:LA):(Int×Int×Nat×Int×Int×Int×Int×List UInt8×List UInt8×LA×LA) ×
 Nat×Int×Int×Int×Int×List UInt8×List UInt8×LA×LA:=(xl4 R b i c d e f a g).snd
def xl1 (R:Int->Int->Int->Int->List UInt8->List UInt8->LA->LA->Option (Int×Int)) (b i c d:Int) (e f:List UInt8) (a g:LA):Int×Int×Nat×Int×Int×Int×Int×List UInt8×List UInt8×LA×LA:=(xl3 R b i c d e f a g).fst
def xl2 (R:Int->Int->Int->Int->List UInt8->List UInt8->LA->LA->Option (Int×Int)) (b i c d:Int) (e f:List UInt8) (a g:LA):Nat×Int×Int×Int×Int×List UInt8×List UInt8×LA×LA:=(xl3 R b i c d e f a g).snd
def xmX (R:Int->Int->Int->Int->List UInt8->List UInt8->LA->LA->Option (Int×Int)) (b i c d:Int) (e f:List UInt8) (a g:LA):Int×Int×Int×Int×List UInt8×List UInt8×LA×LA:=(xl2 R b i c d e f a g).snd
def xl0 (R:Int->Int->Int->Int->List UInt8->List UInt8->LA->LA->Option (Int×Int)) (b i c d:Int) (e f:List UInt8) (a g:LA):Nat:=(xl2 R b i c d e f a g).fst
def xmW (R:Int->Int->Int->Int->List UInt8->List UInt8->LA->LA->Option (Int×Int)) (b i c d:Int) (e f:List UInt8) (a g:LA):Int×Int×Int×List UInt8×List UInt8×LA×LA:=(xmX R b i c d e f a g).snd
def xmV (R:Int->Int->Int->Int->List UInt8->List UInt8->LA->LA->Option (Int×Int)) (b i c d:Int) (e f:List UInt8) (a g:LA):Int×Int×List UInt8×List UInt8×LA×LA:=(xmW R b i c d e f a g).snd
def xmU (R:Int->Int->Int->Int->List UInt8->List UInt8->LA->LA->Option (Int×Int)) (b i c d:Int) (e f:List UInt8) (a g:LA):Int×List UInt8×List UInt8×LA×LA:=(xmV R b i c d e f a g).snd
def xmT (R:Int->Int->Int->Int->List UInt8->List UInt8->LA->LA->Option (Int×Int)) (b i c d:Int) (e f:List UInt8) (a g:LA):List UInt8×List UInt8×LA×LA:=(xmU R b i c d e f a g).snd
def xmS (R:Int->Int->Int->Int->List UInt8->List UInt8->LA->LA->Option (Int×Int)) (b i c d:Int) (e f:List UInt8) (a g:LA):List UInt8×LA×LA:=(xmT R b i c d e f a g).snd
def xmR (R:Int->Int->Int->Int->List UInt8->List UInt8->LA->LA->Option (Int×Int)) (b i c d:Int) (e f:List UInt8) (a g:LA):LA×LA:=(xmS R b i c d e f a g).snd
def xmQ (R:Int->Int->Int->Int->List UInt8->List UInt8->LA->LA->Option (Int×Int)) (b i c d:Int) (e f:List UInt8) (a g:LA):LA:=(xmR R b i c d e f a g).snd
def xmP (R:Int->Int->Int->Int->List UInt8->List UInt8->LA->LA->Option (Int×Int)) (c i d e:Int) (f g:List UInt8) (a b:LA):Option (Int×Bool):=xgY (xmX R c i d e f g a b).fst (xmW R c i d e f g a b).fst (xmV R c i d e f g a b).fst (xmU R c i d e f g a b).fst (xmT R c i d e f g a b).fst (xmS R c i d e f g a b).fst (xmR R c i d e f g a b).fst (List.take (xl0 R c i d e f g a b) (List.drop 0 (xmQ R c i d e f g a b))) b
def xmO (R:Int->Int->Int->Int->List UInt8->List UInt8->LA->LA->Option (Int×Int)) (b i c d:Int) (e f:List UInt8) (a g:LA):Int×Bool:=(xmP R b i c d e f a g).getD (0,false)
def xiE {T:Type} (R:Int->Int->Int->Int->List UInt8->List UInt8->LA->LA->Option (Int×Int)) (b i c d:Int) (e f:List UInt8) (a g:LA) (δ:T) (κ:Int×Int->T):T:=br ((xl5 R b i c d e f a g).isSome) (br ((xl4 R b i c d e f a g).fst) (κ ((xl1 R b i c d e f a g).fst,(xl1 R b i c d e f a g).snd.fst)) (br (decide (0+xl0 R b i c d e f a g<=(xmQ R b i c d e f a g).length)&&true) (br ((xmP R b i c d e f a g).isSome) (br (!(xmO R b i c d e f a g).snd) (κ (0,7)) (κ ((xmO R b i c d e f a g).fst,0))) δ) δ)) δ
def xkn {T:Type} (R:Int->Int->Int->Int->List UInt8->List UInt8->LA->LA->Option (Int×Int)) (b i c d:Int) (e f:List UInt8) (a g:LA) (δ:T) (κ:Int×Int->T):T:=br (decide ((xif b).fst<0)) (κ (0,7)) (br ((xlx b i c d e f a).isSome) (br (!(xlx b i c d e f a).getD false) (κ (0,8)) (br (b==2) (br (decide (i<0)) (κ (0,13)) (br (decide (i>=g.length)) (κ (0,13)) (xiE R b i c d e f a g δ κ))) (xiE R b i c d e f a g δ κ))) δ)
def xfl (R:Int->Int->Int->Int->List UInt8->List UInt8->LA->LA->Option (Int×Int)) (b i c d:Int) (e f:List UInt8) (a g:LA):=xkn R b i c d e f a g none some
theorem xyS (R:Int->Int->Int->Int->List UInt8->List UInt8->LA->LA->Option (Int×Int)) (b i c d:Int) (e f:List UInt8) (a g:LA):Enc (fun (p:Int×Int)=>((AV.tuple [AV.int .i64 p.1,AV.int .i64 p.2]):AV)) (xfl R b i c d e f a g) (XF P0 (xd2 R) Tryz.f127 (Tryz.f127.body.getD .skip) [AV.agg [AV.int .i64 b,AV.int .i64 i,AV.int .i64 c,AV.int .i64 d,AV.str e,AV.str f,AV.list 7 a],AV.list 1 g]):=by
 have h:XF P0 (xd2 R) Tryz.f127 (Tryz.f127.body.getD .skip) [AV.agg [AV.int .i64 b,AV.int .i64 i,AV.int .i64 c,AV.int .i64 d,AV.str e,AV.str f,AV.list 7 a],AV.list 1 g]=xkn R b i c d e f a g none (fun (p:Int×Int)=>some ((AV.tuple [AV.int .i64 p.1,AV.int .i64 p.2]):AV)):=by kernel_rfl
 rw [h];unfold xfl xkn xiE;repeat' (first|refine Enc.br ?_ ?_|exact Enc.none|exact Enc.some rfl)
def xyR (R:Int->Int->Int->Int->List UInt8->List UInt8->LA->LA->Option (Int×Int)):LA->Option (Bool×AV):=ocOf (xLp (xLG (xLp (sEq (pInt .i64)) (xLp (sEq (pInt .i64)) (xLp (sEq (pInt .i64)) (xLp (sEq (pInt .i64)) (xLp (sEq pStr) (xLp (sEq pStr) (xLp (xLF 7 xLs) xLr)))))))) (xLp (xLF 1 xLs) xLr)) fun ((b,(i,(c,(d,(e,(f,(a,_))))))),(g,_))=>((xfl R b i c d e f a g).isSome,(AV.tuple [AV.int .i64 ((xfl R b i c d e f a g).getD (0,0)).1,AV.int .i64 ((xfl R b i c d e f a g).getD (0,0)).2]))
theorem xyQ (R:Int->Int->Int->Int->List UInt8->List UInt8->LA->LA->Option (Int×Int)) (a:xdA R):OcOk P0 xLn 127 (xyR R):=xgT fun e h f=>by
 obtain ⟨⟨j,⟨i,⟨k,⟨l,⟨m,⟨n,⟨g,_⟩⟩⟩⟩⟩⟩⟩,⟨o,_⟩⟩:=e;obtain ⟨b,c⟩:=Prod.mk.inj f;refine xiZ (p:=(xd2 R).pin) (xk7 xKQ (xKR P0 _) rfl (xtA R a) Tryz.func127 rfl (by kernel_rfl) (xrS R a) ((xyS R _ _ _ _ _ _ _ _ _ (xa6 (d:=(0,0)) b)).trans ?_))
 exact congrArg some c
def xcU:Nat->Int->Int->Int->Int->List UInt8->List UInt8->LA->LA->Option (Int×Int)
 | 0=>fun _ _ _ _ _ _ _ _=>none
 | fu_+1=>fun b i c d e f a g=>xfl (xcU fu_) b i c d e f a g
theorem xpy:∀ n,xdA (xcU n)
 | 0=>xgT fun _ _ h=>absurd (Prod.mk.inj h).1 Bool.false_ne_true
 | fu_+1=>fun a r h=>xyQ (xcU fu_) (xpy fu_) a r h
def xfX:Int->Int->Int->Int->List UInt8->List UInt8->LA->LA->Option (Int×Int):=fun b i c d e f a g=>limN fun n=>xcU n b i c d e f a g
theorem xuD:xdA xfX:=xst 127 xcU xpy
def xDl:Env:=xuQ.with 127 (xd3 xfX)
theorem xDn:xKH P0 xLn xDl:=xsy.with xuD
def xDm:EO:=EO.mk xDl xDn
def xn9 {T:Type} (b h c d:Int) (e f:List UInt8) (a g:LA) (δ:T) (κ:Int×Int->T):T:=br ((xh9 b h c d e f a).isSome) (br (decide ((xh9 b h c d e f a).getD 0>24)) (κ (0,26)) (br ((xfX b h c d e f a g).isSome) (κ (((xfX b h c d e f a g).getD (0,0)).fst,((xfX b h c d e f a g).getD (0,0)).snd)) δ)) δ
def xqL (c h d e:Int) (f g:List UInt8) (a b:LA):=xn9 c h d e f g a b none some
def xGm:EO:=xDm.f Tryz.func107 14 0 [] [] lk0 (u2 (xLG (u7 uI uI uI uI (sEq pStr) (sEq pStr) (uL 7))) (uL 1)) (fun ((c,i,d,e,g,h,a,_),b,_) _=>xn9 c i d e g h a b) (fun _ p=>AV.tuple [AV.int .i64 p.1,AV.int .i64 p.2]) (0,0)
def xA0:LA:=(([AV.str [(97:UInt8),(100:UInt8),(100:UInt8)],AV.str [(97:UInt8),(102:UInt8),(116:UInt8),(101:UInt8),(114:UInt8)],AV.str [(97:UInt8),(108:UInt8),(108:UInt8)],AV.str [(97:UInt8),(108:UInt8),(116:UInt8),(101:UInt8),(114:UInt8)],AV.str [(97:UInt8),(110:UInt8),(100:UInt8)],AV.str [(97:UInt8),(115:UInt8)],AV.str [(98:UInt8),(101:UInt8),(102:UInt8),(111:UInt8),(114:UInt8),(101:UInt8)],AV.str [(98:UInt8),(101:UInt8),(103:UInt8),(105:UInt8),(110:UInt8)],AV.str [(98:UInt8),(101:UInt8),(116:UInt8),(119:UInt8),(101:UInt8),(101:UInt8),(110:UInt8)],AV.str [(98:UInt8),(111:UInt8),(111:UInt8),(108:UInt8)],AV.str [(98:UInt8),(121:UInt8)],AV.str [(99:UInt8),(104:UInt8),(101:UInt8),(99:UInt8),(107:UInt8)],AV.str [(99:UInt8),(111:UInt8),(97:UInt8),(108:UInt8),(101:UInt8),(115:UInt8),(99:UInt8),(101:UInt8)],AV.str [(99:UInt8),(111:UInt8),(109:UInt8),(109:UInt8),(105:UInt8),(116:UInt8)],AV.str [(99:UInt8),(111:UInt8),(110:UInt8),(116:UInt8),(97:UInt8),(105:UInt8),(110:UInt8),(115:UInt8)],AV.str [(99:UInt8),(111:UInt8),(117:UInt8),(110:UInt8),(116:UInt8)],AV.str [(99:UInt8),(114:UInt8),(101:UInt8),(97:UInt8),(116:UInt8),(101:UInt8)],AV.str [(100:UInt8),(101:UInt8),(102:UInt8),(97:UInt8),(117:UInt8),(108:UInt8),(116:UInt8)],AV.str [(100:UInt8),(101:UInt8),(108:UInt8),(101:UInt8),(116:UInt8),(101:UInt8)],AV.str [(100:UInt8),(101:UInt8),(115:UInt8),(99:UInt8)],AV.str [(100:UInt8),(105:UInt8),(115:UInt8),(116:UInt8),(105:UInt8),(110:UInt8),(99:UInt8),(116:UInt8)],AV.str [(100:UInt8),(114:UInt8),(111:UInt8),(112:UInt8)],AV.str [(100:UInt8),(117:UInt8),(114:UInt8),(105:UInt8),(110:UInt8),(103:UInt8)],AV.str [(101:UInt8),(113:UInt8),(117:UInt8),(97:UInt8),(108:UInt8),(115:UInt8)],AV.str [(101:UInt8),(120:UInt8),(99:UInt8),(101:UInt8),(112:UInt8),(116:UInt8)],AV.str [(102:UInt8),(97:UInt8),(108:UInt8),(115:UInt8),(101:UInt8)],AV.str [(102:UInt8),(105:UInt8),(110:UInt8),(105:UInt8),(115:UInt8),(104:UInt8),(101:UInt8),(100:UInt8),(98:UInt8),(121:UInt8)],AV.str [(102:UInt8),(105:UInt8),(110:UInt8),(105:UInt8),(115:UInt8),(104:UInt8),(101:UInt8),(115:UInt8)],AV.str [(102:UInt8),(111:UInt8),(114:UInt8),(101:UInt8),(105:UInt8),(103:UInt8),(110:UInt8)],AV.str [(102:UInt8),(111:UInt8),(114:UInt8),(101:UInt8),(118:UInt8),(101:UInt8),(114:UInt8)],AV.str [(102:UInt8),(114:UInt8),(111:UInt8),(109:UInt8)],AV.str [(103:UInt8),(114:UInt8),(111:UInt8),(117:UInt8),(112:UInt8)],AV.str [(104:UInt8),(111:UInt8),(108:UInt8),(100:UInt8)],AV.str [(105:UInt8),(102:UInt8)],AV.str [(105:UInt8),(110:UInt8),(115:UInt8),(101:UInt8),(114:UInt8),(116:UInt8)],AV.str [(105:UInt8),(110:UInt8),(116:UInt8)],AV.str [(105:UInt8),(110:UInt8),(116:UInt8),(101:UInt8),(114:UInt8),(115:UInt8),(101:UInt8),(99:UInt8),(116:UInt8)],AV.str [(105:UInt8),(110:UInt8),(116:UInt8),(111:UInt8)],AV.str [(105:UInt8),(115:UInt8)],AV.str [(106:UInt8),(111:UInt8),(105:UInt8),(110:UInt8)],AV.str [(107:UInt8),(101:UInt8),(121:UInt8)],AV.str [(108:UInt8),(101:UInt8),(102:UInt8),(116:UInt8)],AV.str [(108:UInt8),(101:UInt8),(110:UInt8),(103:UInt8),(116:UInt8),(104:UInt8)],AV.str [(108:UInt8),(105:UInt8),(109:UInt8),(105:UInt8),(116:UInt8)],AV.str [(109:UInt8),(97:UInt8),(120:UInt8)],AV.str [(109:UInt8),(101:UInt8),(101:UInt8),(116:UInt8),(115:UInt8)],AV.str [(109:UInt8),(101:UInt8),(116:UInt8),(98:UInt8),(121:UInt8)],AV.str [(109:UInt8),(105:UInt8),(110:UInt8)],AV.str [(110:UInt8),(111:UInt8),(110:UInt8),(115:UInt8),(101:UInt8),(113:UInt8),(117:UInt8),(101:UInt8),(110:UInt8),(99:UInt8),(101:UInt8),(100:UInt8)],AV.str [(110:UInt8),(111:UInt8),(116:UInt8)],AV.str [(110:UInt8),(111:UInt8),(119:UInt8)],AV.str [(110:UInt8),(117:UInt8),(108:UInt8),(108:UInt8)],AV.str [(111:UInt8),(102:UInt8)],AV.str [(111:UInt8),(110:UInt8)],AV.str [(111:UInt8),(114:UInt8)],AV.str [(111:UInt8),(114:UInt8),(100:UInt8),(101:UInt8),(114:UInt8)],AV.str [(111:UInt8),(118:UInt8),(101:UInt8),(114:UInt8),(108:UInt8),(97:UInt8),(112:UInt8),(112:UInt8),(101:UInt8),(100:UInt8),(98:UInt8),(121:UInt8)],AV.str [(111:UInt8),(118:UInt8),(101:UInt8),(114:UInt8),(108:UInt8),(97:UInt8),(112:UInt8),(115:UInt8)],AV.str [(112:UInt8),(114:UInt8),(105:UInt8),(109:UInt8),(97:UInt8),(114:UInt8),(121:UInt8)],AV.str [(112:UInt8),(114:UInt8),(117:UInt8),(110:UInt8),(101:UInt8)],AV.str [(114:UInt8),(101:UInt8),(102:UInt8),(101:UInt8),(114:UInt8),(101:UInt8),(110:UInt8),(99:UInt8),(101:UInt8),(115:UInt8)],AV.str [(114:UInt8),(101:UInt8),(108:UInt8),(101:UInt8),(97:UInt8),(115:UInt8),(101:UInt8)],AV.str [(114:UInt8),(101:UInt8),(110:UInt8),(97:UInt8),(109:UInt8),(101:UInt8)],AV.str [(114:UInt8),(101:UInt8),(116:UInt8),(97:UInt8),(105:UInt8),(110:UInt8)],AV.str [(114:UInt8),(111:UInt8),(108:UInt8),(108:UInt8),(98:UInt8),(97:UInt8),(99:UInt8),(107:UInt8)],AV.str [(115:UInt8),(101:UInt8),(108:UInt8),(101:UInt8),(99:UInt8),(116:UInt8)],AV.str [(115:UInt8),(101:UInt8),(113:UInt8),(117:UInt8),(101:UInt8),(110:UInt8),(99:UInt8),(101:UInt8),(100:UInt8)],AV.str [(115:UInt8),(101:UInt8),(116:UInt8)],AV.str [(115:UInt8),(116:UInt8),(97:UInt8),(114:UInt8),(116:UInt8),(101:UInt8),(100:UInt8),(98:UInt8),(121:UInt8)],AV.str [(115:UInt8),(116:UInt8),(97:UInt8),(114:UInt8),(116:UInt8),(115:UInt8)],AV.str [(115:UInt8),(117:UInt8),(109:UInt8)],AV.str [(115:UInt8),(121:UInt8),(115:UInt8),(116:UInt8),(101:UInt8),(109:UInt8)],AV.str [(115:UInt8),(121:UInt8),(115:UInt8),(116:UInt8),(101:UInt8),(109:UInt8),(102:UInt8),(114:UInt8),(111:UInt8),(109:UInt8)],AV.str [(115:UInt8),(121:UInt8),(115:UInt8),(116:UInt8),(101:UInt8),(109:UInt8),(116:UInt8),(111:UInt8)],AV.str [(116:UInt8),(97:UInt8),(98:UInt8),(108:UInt8),(101:UInt8)],AV.str [(116:UInt8),(101:UInt8),(120:UInt8),(116:UInt8)],AV.str [(116:UInt8),(111:UInt8)],AV.str [(116:UInt8),(114:UInt8),(117:UInt8),(101:UInt8)],AV.str [(116:UInt8),(120:UInt8)],AV.str [(117:UInt8),(110:UInt8),(100:UInt8),(101:UInt8),(114:UInt8)],AV.str [(117:UInt8),(110:UInt8),(105:UInt8),(111:UInt8),(110:UInt8)],AV.str [(117:UInt8),(112:UInt8),(100:UInt8),(97:UInt8),(116:UInt8),(101:UInt8)],AV.str [(118:UInt8),(97:UInt8),(108:UInt8),(105:UInt8),(100:UInt8)],AV.str [(118:UInt8),(97:UInt8),(108:UInt8),(105:UInt8),(100:UInt8),(102:UInt8),(114:UInt8),(111:UInt8),(109:UInt8)],AV.str [(118:UInt8),(97:UInt8),(108:UInt8),(105:UInt8),(100:UInt8),(116:UInt8),(111:UInt8)],AV.str [(118:UInt8),(97:UInt8),(108:UInt8),(117:UInt8),(101:UInt8),(115:UInt8)],AV.str [(119:UInt8),(104:UInt8),(101:UInt8),(114:UInt8),(101:UInt8)]]))
def xyZ {T:Type} (δ:T) (κ:LA->T):T:=κ ([AV.str [(97:UInt8),(100:UInt8),(100:UInt8)],AV.str [(97:UInt8),(102:UInt8),(116:UInt8),(101:UInt8),(114:UInt8)],AV.str [(97:UInt8),(108:UInt8),(108:UInt8)],AV.str [(97:UInt8),(108:UInt8),(116:UInt8),(101:UInt8),(114:UInt8)],AV.str [(97:UInt8),(110:UInt8),(100:UInt8)],AV.str [(97:UInt8),(115:UInt8)],AV.str [(98:UInt8),(101:UInt8),(102:UInt8),(111:UInt8),(114:UInt8),(101:UInt8)],AV.str [(98:UInt8),(101:UInt8),(103:UInt8),(105:UInt8),(110:UInt8)],AV.str [(98:UInt8),(101:UInt8),(116:UInt8),(119:UInt8),(101:UInt8),(101:UInt8),(110:UInt8)],AV.str [(98:UInt8),(111:UInt8),(111:UInt8),(108:UInt8)],AV.str [(98:UInt8),(121:UInt8)],AV.str [(99:UInt8),(104:UInt8),(101:UInt8),(99:UInt8),(107:UInt8)],AV.str [(99:UInt8),(111:UInt8),(97:UInt8),(108:UInt8),(101:UInt8),(115:UInt8),(99:UInt8),(101:UInt8)],AV.str [(99:UInt8),(111:UInt8),(109:UInt8),(109:UInt8),(105:UInt8),(116:UInt8)],AV.str [(99:UInt8),(111:UInt8),(110:UInt8),(116:UInt8),(97:UInt8),(105:UInt8),(110:UInt8),(115:UInt8)],AV.str [(99:UInt8),(111:UInt8),(117:UInt8),(110:UInt8),(116:UInt8)],AV.str [(99:UInt8),(114:UInt8),(101:UInt8),(97:UInt8),(116:UInt8),(101:UInt8)],AV.str [(100:UInt8),(101:UInt8),(102:UInt8),(97:UInt8),(117:UInt8),(108:UInt8),(116:UInt8)],AV.str [(100:UInt8),(101:UInt8),(108:UInt8),(101:UInt8),(116:UInt8),(101:UInt8)],AV.str [(100:UInt8),(101:UInt8),(115:UInt8),(99:UInt8)],AV.str [(100:UInt8),(105:UInt8),(115:UInt8),(116:UInt8),(105:UInt8),(110:UInt8),(99:UInt8),(116:UInt8)],AV.str [(100:UInt8),(114:UInt8),(111:UInt8),(112:UInt8)],AV.str [(100:UInt8),(117:UInt8),(114:UInt8),(105:UInt8),(110:UInt8),(103:UInt8)],AV.str [(101:UInt8),(113:UInt8),(117:UInt8),(97:UInt8),(108:UInt8),(115:UInt8)],AV.str [(101:UInt8),(120:UInt8),(99:UInt8),(101:UInt8),(112:UInt8),(116:UInt8)],AV.str [(102:UInt8),(97:UInt8),(108:UInt8),(115:UInt8),(101:UInt8)],AV.str [(102:UInt8),(105:UInt8),(110:UInt8),(105:UInt8),(115:UInt8),(104:UInt8),(101:UInt8),(100:UInt8),(98:UInt8),(121:UInt8)],AV.str [(102:UInt8),(105:UInt8),(110:UInt8),(105:UInt8),(115:UInt8),(104:UInt8),(101:UInt8),(115:UInt8)],AV.str [(102:UInt8),(111:UInt8),(114:UInt8),(101:UInt8),(105:UInt8),(103:UInt8),(110:UInt8)],AV.str [(102:UInt8),(111:UInt8),(114:UInt8),(101:UInt8),(118:UInt8),(101:UInt8),(114:UInt8)],AV.str [(102:UInt8),(114:UInt8),(111:UInt8),(109:UInt8)],AV.str [(103:UInt8),(114:UInt8),(111:UInt8),(117:UInt8),(112:UInt8)],AV.str [(104:UInt8),(111:UInt8),(108:UInt8),(100:UInt8)],AV.str [(105:UInt8),(102:UInt8)],AV.str [(105:UInt8),(110:UInt8),(115:UInt8),(101:UInt8),(114:UInt8),(116:UInt8)],AV.str [(105:UInt8),(110:UInt8),(116:UInt8)],AV.str [(105:UInt8),(110:UInt8),(116:UInt8),(101:UInt8),(114:UInt8),(115:UInt8),(101:UInt8),(99:UInt8),(116:UInt8)],AV.str [(105:UInt8),(110:UInt8),(116:UInt8),(111:UInt8)],AV.str [(105:UInt8),(115:UInt8)],AV.str [(106:UInt8),(111:UInt8),(105:UInt8),(110:UInt8)],AV.str [(107:UInt8),(101:UInt8),(121:UInt8)],AV.str [(108:UInt8),(101:UInt8),(102:UInt8),(116:UInt8)],AV.str [(108:UInt8),(101:UInt8),(110:UInt8),(103:UInt8),(116:UInt8),(104:UInt8)],AV.str [(108:UInt8),(105:UInt8),(109:UInt8),(105:UInt8),(116:UInt8)],AV.str [(109:UInt8),(97:UInt8),(120:UInt8)],AV.str [(109:UInt8),(101:UInt8),(101:UInt8),(116:UInt8),(115:UInt8)],AV.str [(109:UInt8),(101:UInt8),(116:UInt8),(98:UInt8),(121:UInt8)],AV.str [(109:UInt8),(105:UInt8),(110:UInt8)],AV.str [(110:UInt8),(111:UInt8),(110:UInt8),(115:UInt8),(101:UInt8),(113:UInt8),(117:UInt8),(101:UInt8),(110:UInt8),(99:UInt8),(101:UInt8),(100:UInt8)],AV.str [(110:UInt8),(111:UInt8),(116:UInt8)],AV.str [(110:UInt8),(111:UInt8),(119:UInt8)],AV.str [(110:UInt8),(117:UInt8),(108:UInt8),(108:UInt8)],AV.str [(111:UInt8),(102:UInt8)],AV.str [(111:UInt8),(110:UInt8)],AV.str [(111:UInt8),(114:UInt8)],AV.str [(111:UInt8),(114:UInt8),(100:UInt8),(101:UInt8),(114:UInt8)],AV.str [(111:UInt8),(118:UInt8),(101:UInt8),(114:UInt8),(108:UInt8),(97:UInt8),(112:UInt8),(112:UInt8),(101:UInt8),(100:UInt8),(98:UInt8),(121:UInt8)],AV.str [(111:UInt8),(118:UInt8),(101:UInt8),(114:UInt8),(108:UInt8),(97:UInt8),(112:UInt8),(115:UInt8)],AV.str [(112:UInt8),(114:UInt8),(105:UInt8),(109:UInt8),(97:UInt8),(114:UInt8),(121:UInt8)],AV.str [(112:UInt8),(114:UInt8),(117:UInt8),(110:UInt8),(101:UInt8)],AV.str [(114:UInt8),(101:UInt8),(102:UInt8),(101:UInt8),(114:UInt8),(101:UInt8),(110:UInt8),(99:UInt8),(101:UInt8),(115:UInt8)],AV.str [(114:UInt8),(101:UInt8),(108:UInt8),(101:UInt8),(97:UInt8),(115:UInt8),(101:UInt8)],AV.str [(114:UInt8),(101:UInt8),(110:UInt8),(97:UInt8),(109:UInt8),(101:UInt8)],AV.str [(114:UInt8),(101:UInt8),(116:UInt8),(97:UInt8),(105:UInt8),(110:UInt8)],AV.str [(114:UInt8),(111:UInt8),(108:UInt8),(108:UInt8),(98:UInt8),(97:UInt8),(99:UInt8),(107:UInt8)],AV.str [(115:UInt8),(101:UInt8),(108:UInt8),(101:UInt8),(99:UInt8),(116:UInt8)],AV.str [(115:UInt8),(101:UInt8),(113:UInt8),(117:UInt8),(101:UInt8),(110:UInt8),(99:UInt8),(101:UInt8),(100:UInt8)],AV.str [(115:UInt8),(101:UInt8),(116:UInt8)],AV.str [(115:UInt8),(116:UInt8),(97:UInt8),(114:UInt8),(116:UInt8),(101:UInt8),(100:UInt8),(98:UInt8),(121:UInt8)],AV.str [(115:UInt8),(116:UInt8),(97:UInt8),(114:UInt8),(116:UInt8),(115:UInt8)],AV.str [(115:UInt8),(117:UInt8),(109:UInt8)],AV.str [(115:UInt8),(121:UInt8),(115:UInt8),(116:UInt8),(101:UInt8),(109:UInt8)],AV.str [(115:UInt8),(121:UInt8),(115:UInt8),(116:UInt8),(101:UInt8),(109:UInt8),(102:UInt8),(114:UInt8),(111:UInt8),(109:UInt8)],AV.str [(115:UInt8),(121:UInt8),(115:UInt8),(116:UInt8),(101:UInt8),(109:UInt8),(116:UInt8),(111:UInt8)],AV.str [(116:UInt8),(97:UInt8),(98:UInt8),(108:UInt8),(101:UInt8)],AV.str [(116:UInt8),(101:UInt8),(120:UInt8),(116:UInt8)],AV.str [(116:UInt8),(111:UInt8)],AV.str [(116:UInt8),(114:UInt8),(117:UInt8),(101:UInt8)],AV.str [(116:UInt8),(120:UInt8)],AV.str [(117:UInt8),(110:UInt8),(100:UInt8),(101:UInt8),(114:UInt8)],AV.str [(117:UInt8),(110:UInt8),(105:UInt8),(111:UInt8),(110:UInt8)],AV.str [(117:UInt8),(112:UInt8),(100:UInt8),(97:UInt8),(116:UInt8),(101:UInt8)],AV.str [(118:UInt8),(97:UInt8),(108:UInt8),(105:UInt8),(100:UInt8)],AV.str [(118:UInt8),(97:UInt8),(108:UInt8),(105:UInt8),(100:UInt8),(102:UInt8),(114:UInt8),(111:UInt8),(109:UInt8)],AV.str [(118:UInt8),(97:UInt8),(108:UInt8),(105:UInt8),(100:UInt8),(116:UInt8),(111:UInt8)],AV.str [(118:UInt8),(97:UInt8),(108:UInt8),(117:UInt8),(101:UInt8),(115:UInt8)],AV.str [(119:UInt8),(104:UInt8),(101:UInt8),(114:UInt8),(101:UInt8)]])
def xDo:EO:=xGm.fT Tryz.func103 2 0 [] [] lk0 (fun _=>xyZ none) xLr (fun _=>xA0) (fun _ p=>(AV.list 1 p))
def xkp {T:Type} (l:LA) (a:List UInt8) (i:Int) (δ:T) (κl:(Int)->T) (κr:(Bool×(Bool)×(Unit))->T):T:=br (decide (i<l.length)) (br (ixI l i) (br (decide (i.toNat<l.length)&&xKF Sh.str (gC l i 0)) (br ((gC l i 0).toStr==a) (κr (true,(true),())) (κl (i64.wrap (i+1)))) δ) δ) (κr (false,false,()))
def xcY (l:LA) (a:List UInt8):StT (Int) (Bool×(Bool)×(Unit)):=fun (i)=>xkp l a i none inL inR
def xri:=xDo.l 18 0 [] [] Tryz.f102 0 lk0 [0,1,5] [4] [] (q3 (qL 1) pStr qI) xLq (fun (l,a,i,_) _=>(xcY l a,(i),fun p=>(.node p.1 (.leaf .ret [AV.bool p.2.1] []) (.leaf (.exit 0) [.top] [])))) (false,false,()) fun (l,a,_,_) _ (i)=>(((l,a,i,()),()),xkp l a i none)
def xrU {T:Type} (l:LA) (a:List UInt8) (δ:T) (κ:Bool->T):T:=br ((Iter (xcY l a) 0).isSome) (br (((Iter (xcY l a) 0).getD (false,false,())).fst) (κ (((Iter (xcY l a) 0).getD (false,false,())).snd.fst)) (κ (false))) δ
def xuH (l:LA) (a:List UInt8):=xrU l a none some
def xDp:EO:=xDo.f Tryz.func102 18 0 [] [(2,xri.lp)] (lk1 xri.ok) (u2 (uL 1) (sEq pStr)) (fun (l,a,_) _=>xrU l a) (fun _ p=>AV.bool p) false
def xgN {T:Type} (a:List UInt8) (i:Int) (κl:(Int)->T) (κr:(Bool×(Bool)×(Unit))->T):T:=br (!(↑(a.getD i.toNat (0:UInt8)).toNat:Int)==95) (κr (true,(false),())) (κl (i64.wrap (i+1)))
def xgM {T:Type} (a:List UInt8) (i:Int) (κl:(Int)->T) (κr:(Bool×(Bool)×(Unit))->T):T:=br (decide ((↑(a.getD i.toNat (0:UInt8)).toNat:Int)>=48)) (br (decide ((↑(a.getD i.toNat (0:UInt8)).toNat:Int)<=57)) (κl (i64.wrap (i+1))) (xgN a i κl κr)) (xgN a i κl κr)
def xiG {T:Type} (a:List UInt8) (i:Int) (δ:T) (κl:(Int)->T) (κr:(Bool×(Bool)×(Unit))->T):T:=br (decide (i<a.length)) (br (decide (0<=i)&&decide (i<a.length)) (br (decide ((↑(a.getD i.toNat (0:UInt8)).toNat:Int)>=97)) (br (decide ((↑(a.getD i.toNat (0:UInt8)).toNat:Int)<=122)) (κl (i64.wrap (i+1))) (xgM a i κl κr)) (xgM a i κl κr)) δ) (κr (false,false,()))
def xcd (a:List UInt8):StT (Int) (Bool×(Bool)×(Unit)):=fun (i)=>xiG a i none inL inR
def xpE:=xDp.l 54 0 [] [] Tryz.f76 0 lk0 [0,3] [0,2] [] (q2 pStr qI) xLq (fun (a,i,_) _=>(xcd a,(i),fun p=>(.node p.1 (.leaf .ret [AV.str a,AV.bool p.2.1] []) (.leaf (.exit 0) [AV.str a,.top] [])))) (false,false,()) fun (a,_,_) _ (i)=>(((a,i,()),()),xiG a i none)
def xoh (a:List UInt8):=xuH [AV.str [(97:UInt8),(100:UInt8),(100:UInt8)],AV.str [(97:UInt8),(102:UInt8),(116:UInt8),(101:UInt8),(114:UInt8)],AV.str [(97:UInt8),(108:UInt8),(108:UInt8)],AV.str [(97:UInt8),(108:UInt8),(116:UInt8),(101:UInt8),(114:UInt8)],AV.str [(97:UInt8),(110:UInt8),(100:UInt8)],AV.str [(97:UInt8),(115:UInt8)],AV.str [(98:UInt8),(101:UInt8),(102:UInt8),(111:UInt8),(114:UInt8),(101:UInt8)],AV.str [(98:UInt8),(101:UInt8),(103:UInt8),(105:UInt8),(110:UInt8)],AV.str [(98:UInt8),(101:UInt8),(116:UInt8),(119:UInt8),(101:UInt8),(101:UInt8),(110:UInt8)],AV.str [(98:UInt8),(111:UInt8),(111:UInt8),(108:UInt8)],AV.str [(98:UInt8),(121:UInt8)],AV.str [(99:UInt8),(104:UInt8),(101:UInt8),(99:UInt8),(107:UInt8)],AV.str [(99:UInt8),(111:UInt8),(97:UInt8),(108:UInt8),(101:UInt8),(115:UInt8),(99:UInt8),(101:UInt8)],AV.str [(99:UInt8),(111:UInt8),(109:UInt8),(109:UInt8),(105:UInt8),(116:UInt8)],AV.str [(99:UInt8),(111:UInt8),(110:UInt8),(116:UInt8),(97:UInt8),(105:UInt8),(110:UInt8),(115:UInt8)],AV.str [(99:UInt8),(111:UInt8),(117:UInt8),(110:UInt8),(116:UInt8)],AV.str [(99:UInt8),(114:UInt8),(101:UInt8),(97:UInt8),(116:UInt8),(101:UInt8)],AV.str [(100:UInt8),(101:UInt8),(102:UInt8),(97:UInt8),(117:UInt8),(108:UInt8),(116:UInt8)],AV.str [(100:UInt8),(101:UInt8),(108:UInt8),(101:UInt8),(116:UInt8),(101:UInt8)],AV.str [(100:UInt8),(101:UInt8),(115:UInt8),(99:UInt8)],AV.str [(100:UInt8),(105:UInt8),(115:UInt8),(116:UInt8),(105:UInt8),(110:UInt8),(99:UInt8),(116:UInt8)],AV.str [(100:UInt8),(114:UInt8),(111:UInt8),(112:UInt8)],AV.str [(100:UInt8),(117:UInt8),(114:UInt8),(105:UInt8),(110:UInt8),(103:UInt8)],AV.str [(101:UInt8),(113:UInt8),(117:UInt8),(97:UInt8),(108:UInt8),(115:UInt8)],AV.str [(101:UInt8),(120:UInt8),(99:UInt8),(101:UInt8),(112:UInt8),(116:UInt8)],AV.str [(102:UInt8),(97:UInt8),(108:UInt8),(115:UInt8),(101:UInt8)],AV.str [(102:UInt8),(105:UInt8),(110:UInt8),(105:UInt8),(115:UInt8),(104:UInt8),(101:UInt8),(100:UInt8),(98:UInt8),(121:UInt8)],AV.str [(102:UInt8),(105:UInt8),(110:UInt8),(105:UInt8),(115:UInt8),(104:UInt8),(101:UInt8),(115:UInt8)],AV.str [(102:UInt8),(111:UInt8),(114:UInt8),(101:UInt8),(105:UInt8),(103:UInt8),(110:UInt8)],AV.str [(102:UInt8),(111:UInt8),(114:UInt8),(101:UInt8),(118:UInt8),(101:UInt8),(114:UInt8)],AV.str [(102:UInt8),(114:UInt8),(111:UInt8),(109:UInt8)],AV.str [(103:UInt8),(114:UInt8),(111:UInt8),(117:UInt8),(112:UInt8)],AV.str [(104:UInt8),(111:UInt8),(108:UInt8),(100:UInt8)],AV.str [(105:UInt8),(102:UInt8)],AV.str [(105:UInt8),(110:UInt8),(115:UInt8),(101:UInt8),(114:UInt8),(116:UInt8)],AV.str [(105:UInt8),(110:UInt8),(116:UInt8)],AV.str [(105:UInt8),(110:UInt8),(116:UInt8),(101:UInt8),(114:UInt8),(115:UInt8),(101:UInt8),(99:UInt8),(116:UInt8)],AV.str [(105:UInt8),(110:UInt8),(116:UInt8),(111:UInt8)],AV.str [(105:UInt8),(115:UInt8)],AV.str [(106:UInt8),(111:UInt8),(105:UInt8),(110:UInt8)],AV.str [(107:UInt8),(101:UInt8),(121:UInt8)],AV.str [(108:UInt8),(101:UInt8),(102:UInt8),(116:UInt8)],AV.str [(108:UInt8),(101:UInt8),(110:UInt8),(103:UInt8),(116:UInt8),(104:UInt8)],AV.str [(108:UInt8),(105:UInt8),(109:UInt8),(105:UInt8),(116:UInt8)],AV.str [(109:UInt8),(97:UInt8),(120:UInt8)],AV.str [(109:UInt8),(101:UInt8),(101:UInt8),(116:UInt8),(115:UInt8)],AV.str [(109:UInt8),(101:UInt8),(116:UInt8),(98:UInt8),(121:UInt8)],AV.str [(109:UInt8),(105:UInt8),(110:UInt8)],AV.str [(110:UInt8),(111:UInt8),(110:UInt8),(115:UInt8),(101:UInt8),(113:UInt8),(117:UInt8),(101:UInt8),(110:UInt8),(99:UInt8),(101:UInt8),(100:UInt8)],AV.str [(110:UInt8),(111:UInt8),(116:UInt8)],AV.str [(110:UInt8),(111:UInt8),(119:UInt8)],AV.str [(110:UInt8),(117:UInt8),(108:UInt8),(108:UInt8)],AV.str [(111:UInt8),(102:UInt8)],AV.str [(111:UInt8),(110:UInt8)],AV.str [(111:UInt8),(114:UInt8)],AV.str [(111:UInt8),(114:UInt8),(100:UInt8),(101:UInt8),(114:UInt8)],AV.str [(111:UInt8),(118:UInt8),(101:UInt8),(114:UInt8),(108:UInt8),(97:UInt8),(112:UInt8),(112:UInt8),(101:UInt8),(100:UInt8),(98:UInt8),(121:UInt8)],AV.str [(111:UInt8),(118:UInt8),(101:UInt8),(114:UInt8),(108:UInt8),(97:UInt8),(112:UInt8),(115:UInt8)],AV.str [(112:UInt8),(114:UInt8),(105:UInt8),(109:UInt8),(97:UInt8),(114:UInt8),(121:UInt8)],AV.str [(112:UInt8),(114:UInt8),(117:UInt8),(110:UInt8),(101:UInt8)],AV.str [(114:UInt8),(101:UInt8),(102:UInt8),(101:UInt8),(114:UInt8),(101:UInt8),(110:UInt8),(99:UInt8),(101:UInt8),(115:UInt8)],AV.str [(114:UInt8),(101:UInt8),(108:UInt8),(101:UInt8),(97:UInt8),(115:UInt8),(101:UInt8)],AV.str [(114:UInt8),(101:UInt8),(110:UInt8),(97:UInt8),(109:UInt8),(101:UInt8)],AV.str [(114:UInt8),(101:UInt8),(116:UInt8),(97:UInt8),(105:UInt8),(110:UInt8)],AV.str [(114:UInt8),(111:UInt8),(108:UInt8),(108:UInt8),(98:UInt8),(97:UInt8),(99:UInt8),(107:UInt8)],AV.str [(115:UInt8),(101:UInt8),(108:UInt8),(101:UInt8),(99:UInt8),(116:UInt8)],AV.str [(115:UInt8),(101:UInt8),(113:UInt8),(117:UInt8),(101:UInt8),(110:UInt8),(99:UInt8),(101:UInt8),(100:UInt8)],AV.str [(115:UInt8),(101:UInt8),(116:UInt8)],AV.str [(115:UInt8),(116:UInt8),(97:UInt8),(114:UInt8),(116:UInt8),(101:UInt8),(100:UInt8),(98:UInt8),(121:UInt8)],AV.str [(115:UInt8),(116:UInt8),(97:UInt8),(114:UInt8),(116:UInt8),(115:UInt8)],AV.str [(115:UInt8),(117:UInt8),(109:UInt8)],AV.str [(115:UInt8),(121:UInt8),(115:UInt8),(116:UInt8),(101:UInt8),(109:UInt8)],AV.str [(115:UInt8),(121:UInt8),(115:UInt8),(116:UInt8),(101:UInt8),(109:UInt8),(102:UInt8),(114:UInt8),(111:UInt8),(109:UInt8)],AV.str [(115:UInt8),(121:UInt8),(115:UInt8),(116:UInt8),(101:UInt8),(109:UInt8),(116:UInt8),(111:UInt8)],AV.str [(116:UInt8),(97:UInt8),(98:UInt8),(108:UInt8),(101:UInt8)],AV.str [(116:UInt8),(101:UInt8),(120:UInt8),(116:UInt8)],AV.str [(116:UInt8),(111:UInt8)],AV.str [(116:UInt8),(114:UInt8),(117:UInt8),(101:UInt8)],AV.str [(116:UInt8),(120:UInt8)],AV.str [(117:UInt8),(110:UInt8),(100:UInt8),(101:UInt8),(114:UInt8)],AV.str [(117:UInt8),(110:UInt8),(105:UInt8),(111:UInt8),(110:UInt8)],AV.str [(117:UInt8),(112:UInt8),(100:UInt8),(97:UInt8),(116:UInt8),(101:UInt8)],AV.str [(118:UInt8),(97:UInt8),(108:UInt8),(105:UInt8),(100:UInt8)],AV.str [(118:UInt8),(97:UInt8),(108:UInt8),(105:UInt8),(100:UInt8),(102:UInt8),(114:UInt8),(111:UInt8),(109:UInt8)],AV.str [(118:UInt8),(97:UInt8),(108:UInt8),(105:UInt8),(100:UInt8),(116:UInt8),(111:UInt8)],AV.str [(118:UInt8),(97:UInt8),(108:UInt8),(117:UInt8),(101:UInt8),(115:UInt8)],AV.str [(119:UInt8),(104:UInt8),(101:UInt8),(114:UInt8),(101:UInt8)]] a
def xm3 {T:Type} (a:List UInt8) (δ:T) (κ:Bool->T):T:=br ((Iter (xcd a) 0).isSome) (br (((Iter (xcd a) 0).getD (false,false,())).fst) (κ (((Iter (xcd a) 0).getD (false,false,())).snd.fst)) (br ((xoh a).isSome) (κ (!(xoh a).getD false)) δ)) δ
def xpF {T:Type} (a:List UInt8) (δ:T) (κ:Bool->T):T:=br (a==[]) (κ (false)) (br (decide ((↑a.length:Int)>24)) (κ (false)) (br (decide (0<(↑a.length:Int))) (br (decide ((↑(a.getD 0 (0:UInt8)).toNat:Int)>=48)) (br (decide (0<(↑a.length:Int))) (br (decide ((↑(a.getD 0 (0:UInt8)).toNat:Int)<=57)) (κ (false)) (xm3 a δ κ)) δ) (xm3 a δ κ)) δ))
def xge (a:List UInt8):=xpF a none some
def xy9:EO:=xDp.f Tryz.func76 54 0 [] [(4,xpE.lp)] (lk1 xpE.ok) (u1 (sEq pStr)) (fun (a,_) _=>xpF a) (fun _ p=>AV.bool p) false
def xhF {T:Type} (b:Nat) (i:Int) (d:List UInt8) (c e f g a:LA) (δ:T) (κl:(Nat×Int×List UInt8×LA×LA×LA×LA×LA)->T) (κr:(Nat×LA)->T):T:=br (decide (i<c.length)) (br (ixI c i) (br (ixS c i (Sh.int .i64) 1) (br (rmB b a 1 8) (κl (b+1,i64.wrap (i+1),d,c,e,f,g,a++[AV.int .i64 (gC c i 1).toInt])) δ) δ) δ) (κr (b,a))
def xcP:StT (Nat×Int×List UInt8×LA×LA×LA×LA×LA) (Nat×LA):=fun (b,i,c,d,e,f,g,a)=>xhF b i c d e f g a none inL inR
def xov:=xy9.l 23 0 [] [] Tryz.f51 0 lk0 [1,3,4] [3] [(3,1,3)] (q3 (xLC 0 0 0 0) (xLB 1 0 0) qI) (q2 (qB 0 5 27 (q1 (xLD (q5 pStr (qL 3) (qL 1) (qL 2) (qL 7))))) (qB 0 1 3 xLs)) (fun (_,b,i,_) (((c,d,e,f,g,_),_),a,_)=>(xcP,(b,i,c,d,e,f,g,a),fun p=>(.leaf (.exit 0) [AV.osl 0 0 0 p.1] [bF 0 1 3 p.2]))) (0,[]) fun _ _ (b,i,c,d,e,f,g,a)=>((((),b,i,()),(((c,d,e,f,g,()),()),a,())),xhF b i c d e f g a none)
def xm2 (e:List UInt8) (b a c d:LA):=Iter xcP (0,0,e,b,a,c,d,[])
def xm1 (e:List UInt8) (b a c d:LA):=(xm2 e b a c d).getD (0,[])
def xmx (e:List UInt8) (b a c d:LA):=(xm1 e b a c d).snd
def xm0 (e:List UInt8) (b a c d:LA):=(xm1 e b a c d).fst
def xog {T:Type} (e:List UInt8) (b a c d:LA) (δ:T) (κ:LA->T):T:=br ((xm2 e b a c d).isSome) (br (decide (0+xm0 e b a c d<=(xmx e b a c d).length)&&true) (κ (List.take (xm0 e b a c d) (List.drop 0 (xmx e b a c d)))) δ) δ
def xgC (e:List UInt8) (b a c d:LA):=xog e b a c d none some
def xyY:LA->Option (Bool×AV):=fnO (u1 (xLG (u5 (sEq pStr) (uL 3) (uL 1) (uL 2) (uL 7)))) (fun ((e,b,a,c,d,_),_) _=>xog e b a c d) (fun _ p=>AV.list 1 p) []
theorem xsh:OcOk P0 xLn 51 xyY:=fnC xy9.ok Tryz.func51 23 0 [] [(3,xov.lp)] (lk1 xov.ok)
def xDq:EO:=xy9.w xsh
def xiF {T:Type} (b:List UInt8) (i:Int) (c:List UInt8) (a d e f:LA) (δ:T) (κl:(Int×List UInt8×LA×LA×LA×LA)->T) (κr:(Bool×(Int)×(Unit))->T):T:=br (decide (i<a.length)) (br (ixI a i) (br (decide (i.toNat<a.length)&&xKF Sh.str (gC a i 0)) (br ((gC a i 0).toStr==b) (κr (true,(i),())) (κl (i64.wrap (i+1),c,a,d,e,f))) δ) δ) (κr (false,0,()))
def xda (a:List UInt8):StT (Int×List UInt8×LA×LA×LA×LA) (Bool×(Int)×(Unit)):=fun (i,b,c,d,e,f)=>xiF a i b c d e f none inL inR
def xpC:=xDq.l 22 0 [] [] Tryz.f104 0 lk0 [1,2,5] [4] [] (q3 pStr (xLC 0 0 0 0) qI) (q1 (qB 0 5 27 (q1 (xLD (q5 pStr (qL 3) (qL 1) (qL 2) (qL 7)))))) (fun (a,_,i,_) (((b,c,d,e,f,_),_),_)=>(xda a,(i,b,c,d,e,f),fun p=>(.node p.1 (.leaf .ret [AV.int .i64 p.2.1] []) (.leaf (.exit 0) [.top] [])))) (false,0,()) fun (a,_,_,_) _ (i,b,c,d,e,f)=>(((a,(),i,()),(((b,c,d,e,f,()),()),())),xiF a i b c d e f none)
def xof (e:List UInt8) (b a c d:LA) (f:List UInt8):=Iter (xda f) (0,e,b,a,c,d)
def xoe (e:List UInt8) (b a c d:LA) (f:List UInt8):=(xof e b a c d f).getD (false,0,())
def xpD {T:Type} (e:List UInt8) (b a c d:LA) (f:List UInt8) (δ:T) (κ:Int->T):T:=br ((xof e b a c d f).isSome) (br ((xoe e b a c d f).fst) (κ ((xoe e b a c d f).snd.fst)) (κ ((-1)))) δ
def xoP (e:List UInt8) (b a c d:LA) (f:List UInt8):=xpD e b a c d f none some
def xHE:EO:=xDq.f Tryz.func104 22 0 [] [(2,xpC.lp)] (lk1 xpC.ok) (u2 (xLG (u5 (sEq pStr) (uL 3) (uL 1) (uL 2) (uL 7))) (sEq pStr)) (fun ((e,b,a,c,d,_),g,_) _=>xpD e b a c d g) (fun _ p=>AV.int .i64 p) 0
def xi5 (e:List UInt8) (a b c d:LA) (i:Int):Bool:=(br (decide (i>=0)) ((decide (i<a.length))) ((false)))
def xwg {T:Type} (e:List UInt8) (a b c d:LA) (i:Int) (δ:T) (κ:Bool->T):T:=br (decide (i>=0)) (κ (decide (i<a.length))) (κ (false))
def xDr:EO:=xHE.fT Tryz.func105 14 0 [] [] lk0 (fun ((e,b,a,c,d,_),i,_)=>xwg e b a c d i none) (u2 (xLG (u5 (sEq pStr) (uL 3) (uL 1) (uL 2) (uL 7))) uI) (fun ((e,b,a,c,d,_),i,_)=>xi5 e b a c d i) (fun _ p=>(AV.bool p))
def xgf {T:Type} (i:Int) (b:List UInt8) (a c d e:LA) (δ:T) (κl:(Int×List UInt8×LA×LA×LA×LA)->T) (κr:(Bool×(Int)×(Unit))->T):T:=br (decide (i<a.length)) (br (ixI a i) (br (ixT a i 3 [Sh.str,Sh.int .i64,Sh.bool] 0) (br ((xge (gC a i 0).toStr).isSome) (br (!(xge (gC a i 0).toStr).getD false) (κr (true,(1),())) (br (decide ((gC a i 1).toInt<1)) (κr (true,(7),())) (br (decide ((gC a i 1).toInt>3)) (κr (true,(7),())) (br ((xoP b a c d e (gC a i 0).toStr).isSome) (br (decide ((xoP b a c d e (gC a i 0).toStr).getD 0<i)) (κr (true,(10),())) (κl (i64.wrap (i+1),b,a,c,d,e))) δ)))) δ) δ) δ) (κr (false,0,()))
def xbx:StT (Int×List UInt8×LA×LA×LA×LA) (Bool×(Int)×(Unit)):=fun (i,a,b,c,d,e)=>xgf i a b c d e none inL inR
def xmn:=xDr.l 45 0 [] [] Tryz.f77 0 lk0 [1,3] [2] [] (q2 (xLC 0 0 0 0) qI) (q1 (qB 0 5 27 (q1 (xLD (q5 pStr (qL 3) (qL 1) (qL 2) (qL 7)))))) (fun (_,i,_) (((a,b,c,d,e,_),_),_)=>(xbx,(i,a,b,c,d,e),fun p=>(.node p.1 (.leaf .ret [AV.int .i64 p.2.1] []) (.leaf (.exit 0) [.top] [])))) (false,0,()) fun _ _ (i,a,b,c,d,e)=>((((),i,()),(((a,b,c,d,e,()),()),())),xgf i a b c d e none)
def xkR (e:List UInt8) (b a c d:LA):=Iter xbx (0,e,b,a,c,d)
def xkQ (e:List UInt8) (b a c d:LA):=(xkR e b a c d).getD (false,0,())
def xl6 {T:Type} (e:List UInt8) (a b c d:LA) (δ:T) (κ:Int->T):T:=br (decide ((↑a.length:Int)<1)) (κ (13)) (br (decide ((↑a.length:Int)>12)) (κ (13)) (br ((xkR e a b c d).isSome) (br ((xkQ e a b c d).fst) (κ ((xkQ e a b c d).snd.fst)) (κ (0))) δ))
def xfY (e:List UInt8) (b a c d:LA):=xl6 e b a c d none some
def xDs:EO:=xDr.f Tryz.func77 45 0 [] [(4,xmn.lp)] (lk1 xmn.ok) (u1 (xLG (u5 (sEq pStr) (uL 3) (uL 1) (uL 2) (uL 7)))) (fun ((e,b,a,c,d,_),_) _=>xl6 e b a c d) (fun _ p=>AV.int .i64 p) 0
def xeE (i:Int) (a:LA):=ixI a i
def xeF (i:Int) (a:LA):=decide (i.toNat<a.length)&&xKF (Sh.int .i64) (gC a i 0)
def xbB (i:Int) (a:LA):=(gC a i 0).toInt
def xd6 {T:Type} (i:Int) (c:List UInt8) (b a d e:LA) (δ:T) (κl:(Int×List UInt8×LA×LA×LA×LA)->T) (κr:(Bool×(Int)×(Unit))->T):T:=br (xeE i a) (br (xeF i a) (br (decide (0<=xbB i a)&&decide (xbB i a<b.length)) (br (decide ((xbB i a).toNat<b.length)&&xKF Sh.bool ((b.getD (xbB i a).toNat .top).cells.getD 2 .top)) (br (((b.getD (xbB i a).toNat .top).cells.getD 2 .top).toBool) (κr (true,(12),())) (κl (i64.wrap (i+1),c,b,a,d,e))) δ) δ) δ) δ
def xfs {T:Type} (i:Int) (b:List UInt8) (c a d e:LA) (δ:T) (κl:(Int×List UInt8×LA×LA×LA×LA)->T) (κr:(Bool×(Int)×(Unit))->T):T:=br (decide (i<a.length)) (br (xeE i a) (br (xeF i a) (br (!xi5 b c a d e (xbB i a)) (κr (true,(25),())) (br (decide (i>0)) (br (xeE i a) (br (xeF i a) (br (decide (0<=i64.wrap (i - 1))&&decide (i64.wrap (i - 1)<(↑a.length:Int))) (br (decide ((i64.wrap (i - 1)).toNat<a.length)&&xKF (Sh.int .i64) ((a.getD (i64.wrap (i - 1)).toNat .top).cells.getD 0 .top)) (br (decide (xbB i a<=((a.getD (i64.wrap (i - 1)).toNat .top).cells.getD 0 .top).toInt)) (κr (true,(25),())) (xd6 i b c a d e δ κl κr)) δ) δ) δ) δ) (xd6 i b c a d e δ κl κr))) δ) δ) (κr (false,0,()))
def xbQ:StT (Int×List UInt8×LA×LA×LA×LA) (Bool×(Int)×(Unit)):=fun (i,a,b,c,d,e)=>xfs i a b c d e none inL inR
def xqk:=xDs.l 51 0 [] [] Tryz.f78 0 lk0 [1,3] [2] [] (q2 (xLC 0 0 0 0) qI) (q1 (qB 0 5 27 (q1 (xLD (q5 pStr (qL 3) (qL 1) (qL 2) (qL 7)))))) (fun (_,i,_) (((a,b,c,d,e,_),_),_)=>(xbQ,(i,a,b,c,d,e),fun p=>(.node p.1 (.leaf .ret [AV.int .i64 p.2.1] []) (.leaf (.exit 0) [.top] [])))) (false,0,()) fun _ _ (i,a,b,c,d,e)=>((((),i,()),(((a,b,c,d,e,()),()),())),xfs i a b c d e none)
def xpH (e:List UInt8) (b a c d:LA):=Iter xbQ (0,e,b,a,c,d)
def xpG (e:List UInt8) (b a c d:LA):=(xpH e b a c d).getD (false,0,())
def xqP {T:Type} (e:List UInt8) (b a c d:LA) (δ:T) (κ:Int->T):T:=br ((↑a.length:Int)==0) (κ (25)) (br ((xpH e b a c d).isSome) (br ((xpG e b a c d).fst) (κ ((xpG e b a c d).snd.fst)) (κ (0))) δ)
def xnM (e:List UInt8) (b a c d:LA):=xqP e b a c d none some
def xza:EO:=xDs.f Tryz.func78 51 0 [] [(4,xqk.lp)] (lk1 xqk.ok) (u1 (xLG (u5 (sEq pStr) (uL 3) (uL 1) (uL 2) (uL 7)))) (fun ((e,b,a,c,d,_),_) _=>xqP e b a c d) (fun _ p=>AV.int .i64 p) 0
def xgg {T:Type} (i k:Int) (b:List UInt8) (c d e f a:LA) (g:List UInt8) (δ:T) (κl:(Int×List UInt8×LA×LA×LA×LA×LA×List UInt8)->T) (κr:(Bool×(Int×List UInt8×LA×LA×LA×LA×LA×List UInt8)×(List UInt8×LA×LA×LA×LA×LA×List UInt8))->T):T:=br (decide (k<i)) (br (ixI a k) (br (ixS a k (Sh.int .i64) 0) (br (ixI a i) (br (ixS a i (Sh.int .i64) 0) (br ((gC a k 0).toInt==(gC a i 0).toInt) (κr (true,(25,b,c,d,e,f,a,g),([],[],[],[],[],[],[]))) (κl (i64.wrap (k+1),b,c,d,e,f,a,g))) δ) δ) δ) δ) (κr (false,(0,[],[],[],[],[],[],[]),(b,c,d,e,f,a,g)))
def xb0 (i:Int):StT (Int×List UInt8×LA×LA×LA×LA×LA×List UInt8) (Bool×(Int×List UInt8×LA×LA×LA×LA×LA×List UInt8)×(List UInt8×LA×LA×LA×LA×LA×List UInt8)):=fun (k,a,b,c,d,e,f,g)=>xgg i k a b c d e f g none inL inR
def xfK:=xza.l 46 0 [] [] Tryz.f106 1 lk0 [2,3,5,6] [2,3,4,5] [] (q4 (xLC 0 0 0 0) (xLC 1 0 0 0) qI qI) (q2 (qB 0 5 27 (q1 (xLD (q5 pStr (qL 3) (qL 1) (qL 2) (qL 7))))) (qB 0 2 149 (q1 (xLD (q2 (qL 1) pStr))))) (fun (_,_,i,k,_) (((a,b,c,d,e,_),_),((f,g,_),_),_)=>(xb0 i,(k,a,b,c,d,e,f,g),fun p=>(.node p.1 (.leaf .ret [AV.own 0 0 0 0,AV.own 1 0 0 0,AV.int .i64 p.2.1.1,AV.int .i64 i] [bF 0 5 27 [AV.agg [AV.str p.2.1.2.1,AV.list 3 p.2.1.2.2.1,AV.list 1 p.2.1.2.2.2.1,AV.list 2 p.2.1.2.2.2.2.1,AV.list 7 p.2.1.2.2.2.2.2.1]],bF 0 2 149 [AV.agg [AV.list 1 p.2.1.2.2.2.2.2.2.1,AV.str p.2.1.2.2.2.2.2.2.2]]]) (.leaf (.exit 2) [AV.own 0 0 0 0,AV.own 1 0 0 0,.top,AV.int .i64 i] [bF 0 5 27 [AV.agg [AV.str p.2.2.1,AV.list 3 p.2.2.2.1,AV.list 1 p.2.2.2.2.1,AV.list 2 p.2.2.2.2.2.1,AV.list 7 p.2.2.2.2.2.2.1]],bF 0 2 149 [AV.agg [AV.list 1 p.2.2.2.2.2.2.2.1,AV.str p.2.2.2.2.2.2.2.2]]])))) (false,(0,[],[],[],[],[],[],[]),([],[],[],[],[],[],[])) fun (_,_,i,_,_) _ (k,a,b,c,d,e,f,g)=>((((),(),i,k,()),(((a,b,c,d,e,()),()),((f,g,()),()),())),xgg i k a b c d e f g none)
def xiv (i:Int) (a:List UInt8) (b c d e f:LA) (g:List UInt8):=Iter (xb0 i) (0,a,b,c,d,e,f,g)
def xiu (i:Int) (a:List UInt8) (b c d e f:LA) (g:List UInt8):=(xiv i a b c d e f g).getD (false,(0,[],[],[],[],[],[],[]),[],[],[],[],[],[],[])
def xit (i:Int) (a:List UInt8) (b c d e f:LA) (g:List UInt8):=(xiu i a b c d e f g).snd
def xis (i:Int) (a:List UInt8) (b c d e f:LA) (g:List UInt8):=(xit i a b c d e f g).snd
def xir (i:Int) (a:List UInt8) (b c d e f:LA) (g:List UInt8):=(xis i a b c d e f g).snd
def xiq (i:Int) (a:List UInt8) (b c d e f:LA) (g:List UInt8):=(xir i a b c d e f g).snd
def xip (i:Int) (a:List UInt8) (b c d e f:LA) (g:List UInt8):=(xiq i a b c d e f g).snd
def xio (i:Int) (a:List UInt8) (b c d e f:LA) (g:List UInt8):=(xip i a b c d e f g).snd
def xin (i:Int) (a:List UInt8) (b c d e f:LA) (g:List UInt8):=(xio i a b c d e f g).snd
def xes {T:Type} (i:Int) (b:List UInt8) (c d e f a:LA) (g:List UInt8) (δ:T) (κl:(Int×List UInt8×LA×LA×LA×LA×LA×List UInt8)->T) (κr:(Bool×(Int)×(Unit))->T):T:=br (decide (i<a.length)) (br (ixI a i) (br (ixS a i (Sh.int .i64) 0) (br (!xi5 b c d e f (gC a i 0).toInt) (κr (true,(25),())) (br ((xiv i b c d e f a g).isSome) (br ((xiu i b c d e f a g).fst) (κr (true,((xit i b c d e f a g).fst.fst),())) (κl (i64.wrap (i+1),(xis i b c d e f a g).fst,(xir i b c d e f a g).fst,(xiq i b c d e f a g).fst,(xip i b c d e f a g).fst,(xio i b c d e f a g).fst,(xin i b c d e f a g).fst,(xin i b c d e f a g).snd))) δ)) δ) δ) (κr (false,0,()))
def xby:StT (Int×List UInt8×LA×LA×LA×LA×LA×List UInt8) (Bool×(Int)×(Unit)):=fun (i,a,b,c,d,e,f,g)=>xes i a b c d e f g none inL inR
def xmo:=xza.l 46 0 [] [(11,xfK.lp)] Tryz.f106 0 (lk1 xfK.ok) [2,3,5] [4] [] (q3 (xLC 0 0 0 0) (xLC 1 0 0 0) qI) (q2 (qB 0 5 27 (q1 (xLD (q5 pStr (qL 3) (qL 1) (qL 2) (qL 7))))) (qB 0 2 149 (q1 (xLD (q2 (qL 1) pStr))))) (fun (_,_,i,_) (((a,b,c,d,e,_),_),((f,g,_),_),_)=>(xby,(i,a,b,c,d,e,f,g),fun p=>(.node p.1 (.leaf .ret [AV.int .i64 p.2.1] []) (.leaf (.exit 0) [.top] [])))) (false,0,()) fun _ _ (i,a,b,c,d,e,f,g)=>((((),(),i,()),(((a,b,c,d,e,()),()),((f,g,()),()),())),xes i a b c d e f g none)
def xkT (e:List UInt8) (b a c d f:LA) (g:List UInt8):=Iter xby (0,e,b,a,c,d,f,g)
def xkS (e:List UInt8) (b a c d f:LA) (g:List UInt8):=(xkT e b a c d f g).getD (false,0,())
def xl7 {T:Type} (g:List UInt8) (c a d e f:LA) (b:List UInt8) (δ:T) (κ:Int->T):T:=br ((xge b).isSome) (br (!(xge b).getD false) (κ (1)) (br ((↑f.length:Int)==0) (κ (25)) (br ((xkT g c a d e f b).isSome) (br ((xkS g c a d e f b).fst) (κ ((xkS g c a d e f b).snd.fst)) (κ (0))) δ))) δ
def xia (e:List UInt8) (b a c d f:LA) (g:List UInt8):=xl7 e b a c d f g none some
def xzb:EO:=xza.f Tryz.func106 46 0 [] [(11,xfK.lp),(6,xmo.lp)] (lks (lkC xmo.ok (lkC xfK.ok lkN))) (u2 (xLG (u5 (sEq pStr) (uL 3) (uL 1) (uL 2) (uL 7))) (xLG (u2 (uL 1) (sEq pStr)))) (fun ((e,b,a,c,d,_),(g,h,_),_) _=>xl7 e b a c d g h) (fun _ p=>AV.int .i64 p) 0
def xeg {T:Type} (i:Int) (b:List UInt8) (c d a e:LA) (δ:T) (κl:(Int×List UInt8×LA×LA×LA×LA)->T) (κr:(Bool×(Int×List UInt8×LA×LA×LA×LA)×(List UInt8×LA×LA×LA×LA))->T):T:=br (decide (i<a.length)) (br (ixI a i) (br (ixT a i 2 [Sh.list 1,Sh.str] 0) (br ((xia b c d a e (gC a i 0).toList (gC a i 1).toStr).isSome) (br ((xia b c d a e (gC a i 0).toList (gC a i 1).toStr).getD 0 != 0) (κr (true,((xia b c d a e (gC a i 0).toList (gC a i 1).toStr).getD 0,b,c,d,a,e),([],[],[],[],[]))) (κl (i64.wrap (i+1),b,c,d,a,e))) δ) δ) δ) (κr (false,(0,[],[],[],[],[]),(b,c,d,a,e)))
def xbl:StT (Int×List UInt8×LA×LA×LA×LA) (Bool×(Int×List UInt8×LA×LA×LA×LA)×(List UInt8×LA×LA×LA×LA)):=fun (i,a,b,c,d,e)=>xeg i a b c d e none inL inR
def xfP:=xzb.l 60 0 [] [] Tryz.f79 0 lk0 [1,3] [1,2] [] (q2 (xLC 0 0 0 0) qI) (q1 (qB 0 5 27 (q1 (xLD (q5 pStr (qL 3) (qL 1) (qL 2) (qL 7)))))) (fun (_,i,_) (((a,b,c,d,e,_),_),_)=>(xbl,(i,a,b,c,d,e),fun p=>(.node p.1 (.leaf .ret [AV.own 0 0 0 0,AV.int .i64 p.2.1.1] [bF 0 5 27 [AV.agg [AV.str p.2.1.2.1,AV.list 3 p.2.1.2.2.1,AV.list 1 p.2.1.2.2.2.1,AV.list 2 p.2.1.2.2.2.2.1,AV.list 7 p.2.1.2.2.2.2.2]]]) (.leaf (.exit 0) [AV.own 0 0 0 0,.top] [bF 0 5 27 [AV.agg [AV.str p.2.2.1,AV.list 3 p.2.2.2.1,AV.list 1 p.2.2.2.2.1,AV.list 2 p.2.2.2.2.2.1,AV.list 7 p.2.2.2.2.2.2]]])))) (false,(0,[],[],[],[],[]),([],[],[],[],[])) fun _ _ (i,a,b,c,d,e)=>((((),i,()),(((a,b,c,d,e,()),()),())),xeg i a b c d e none)
def xfT (i:Int) (b:List UInt8) (c d e a:LA):=xqL (gC a i 0).toInt (gC a i 1).toInt (gC a i 2).toInt (gC a i 3).toInt (gC a i 4).toStr (gC a i 5).toStr (gC a i 6).toList ((xgC b c d e a).getD [])
def xfS (i:Int) (a:List UInt8) (b c d e:LA):=(xfT i a b c d e).getD (0,0)
def xfQ (i:Int) (a:List UInt8) (b c d e:LA):=(xfS i a b c d e).fst
def xfR (i:Int) (a:List UInt8) (b c d e:LA):=(xfS i a b c d e).snd
def xeh {T:Type} (i:Int) (b:List UInt8) (c d e a:LA) (δ:T) (κl:(Int×List UInt8×LA×LA×LA×LA)->T) (κr:(Bool×(Int)×(Unit))->T):T:=br (decide (i<a.length)) (br (ixI a i) (br (ixT a i 7 [Sh.int .i64,Sh.int .i64,Sh.int .i64,Sh.int .i64,Sh.str,Sh.str,Sh.list 7] 0) (br ((xgC b c d e a).isSome) (br ((xfT i b c d e a).isSome) (br (xfR i b c d e a != 0) (κr (true,(xfR i b c d e a),())) (br (xfQ i b c d e a != 3) (br (xfQ i b c d e a != 0) (κr (true,(7),())) (κl (i64.wrap (i+1),b,c,d,e,a))) (κl (i64.wrap (i+1),b,c,d,e,a)))) δ) δ) δ) δ) (κr (false,0,()))
def xbm:StT (Int×List UInt8×LA×LA×LA×LA) (Bool×(Int)×(Unit)):=fun (i,a,b,c,d,e)=>xeh i a b c d e none inL inR
def xjI:=xzb.l 60 0 [] [(4,xfP.lp)] Tryz.f79 1 lk0 [1,5] [2] [] (q2 (xLC 0 0 0 0) qI) (q1 (qB 0 5 27 (q1 (xLD (q5 pStr (qL 3) (qL 1) (qL 2) (qL 7)))))) (fun (_,i,_) (((a,b,c,d,e,_),_),_)=>(xbm,(i,a,b,c,d,e),fun p=>(.node p.1 (.leaf .ret [AV.int .i64 p.2.1] []) (.leaf (.exit 2) [.top] [])))) (false,0,()) fun _ _ (i,a,b,c,d,e)=>((((),i,()),(((a,b,c,d,e,()),()),())),xeh i a b c d e none)
def xhP (e:List UInt8) (b a c d:LA):=Iter xbl (0,e,b,a,c,d)
def xhO (e:List UInt8) (b a c d:LA):=(xhP e b a c d).getD (false,(0,[],[],[],[],[]),[],[],[],[],[])
def xhN (e:List UInt8) (b a c d:LA):=(xhO e b a c d).snd
def xhM (e:List UInt8) (b a c d:LA):=(xhN e b a c d).snd
def xhL (e:List UInt8) (b a c d:LA):=(xhM e b a c d).snd
def xhK (e:List UInt8) (b a c d:LA):=(xhL e b a c d).snd
def xhJ (e:List UInt8) (b a c d:LA):=(xhK e b a c d).snd
def xhI (e:List UInt8) (b a c d:LA):=(xhJ e b a c d).snd
def xhH (e:List UInt8) (b a c d:LA):=Iter xbm (0,(xhM e b a c d).fst,(xhL e b a c d).fst,(xhK e b a c d).fst,(xhJ e b a c d).fst,xhI e b a c d)
def xhG (e:List UInt8) (b a c d:LA):=(xhH e b a c d).getD (false,0,())
def xim {T:Type} (e:List UInt8) (c a b d:LA) (δ:T) (κ:Int->T):T:=br (decide ((↑b.length:Int)>4)) (κ (5)) (br ((xhP e c a b d).isSome) (br ((xhO e c a b d).fst) (κ ((xhN e c a b d).fst.fst)) (br (decide ((↑(xhI e c a b d).length:Int)>4)) (κ (5)) (br ((xhH e c a b d).isSome) (br ((xhG e c a b d).fst) (κ ((xhG e c a b d).snd.fst)) (κ (0))) δ))) δ)
def xdC (e:List UInt8) (b a c d:LA):=xim e b a c d none some
def xGn:EO:=xzb.f Tryz.func79 60 0 [] [(4,xfP.lp),(12,xjI.lp)] (lks (lkC xfP.ok (lkC xjI.ok lkN))) (u1 (xLG (u5 (sEq pStr) (uL 3) (uL 1) (uL 2) (uL 7)))) (fun ((e,b,a,c,d,_),_) _=>xim e b a c d) (fun _ p=>AV.int .i64 p) 0
def xod {T:Type} (e:List UInt8) (b a c d:LA) (δ:T) (κ:Int->T):T:=br ((xge e).isSome) (br (!(xge e).getD false) (κ (1)) (br ((xfY e b a c d).isSome) (br ((xfY e b a c d).getD 0==0) (br ((xnM e b a c d).isSome) (br ((xnM e b a c d).getD 0==0) (br ((xdC e b a c d).isSome) (κ ((xdC e b a c d).getD 0)) δ) (κ ((xnM e b a c d).getD 0))) δ) (br ((xfY e b a c d).getD 0==0) (br ((xdC e b a c d).isSome) (κ ((xdC e b a c d).getD 0)) δ) (κ ((xfY e b a c d).getD 0)))) δ)) δ
def xnq (e:List UInt8) (b a c d:LA):=xod e b a c d none some
def xyX:LA->Option (Bool×AV):=fnO (u1 (xLG (u5 (sEq pStr) (uL 3) (uL 1) (uL 2) (uL 7)))) (fun ((e,b,a,c,d,_),_) _=>xod e b a c d) (fun _ p=>AV.int .i64 p) 0
theorem xyW:OcOk P0 xLn 49 xyX:=fnC xGn.ok Tryz.func49 19 0 [] [] lk0
def xHH:EO:=xHy.w xsg
def xHI:EO:=xHH.w xyW
def xDt:EO:=xHI.w xsh
def xhB (a l:LA) (i:Int):=(xkN a (gC l i 0).toInt).getD (0,0,[])
def xhA (a l:LA) (i:Int):=(xhB a l i).snd
def xiC {T:Type} (c l:LA) (b:Nat) (i:Int) (a:LA) (δ:T) (κl:(Nat×Int×LA)->T) (κr:(Nat×LA)->T):T:=br (decide (i<l.length)) (br (ixI l i) (br (ixS l i (Sh.int .i64) 0) (br ((xkN c (gC l i 0).toInt).isSome) (br (rmB b a 1 32) (κl (b+1,i64.wrap (i+1),a++[AV.agg [AV.int .i64 (xhB c l i).fst,AV.int .i64 (xhA c l i).fst,AV.str (xhA c l i).snd]])) δ) δ) δ) δ) (κr (b,a))
def xc6 (c l:LA):StT (Nat×Int×LA) (Nat×LA):=fun (b,i,a)=>xiC c l b i a none inL inR
def xpr:=xDt.l 24 0 [] [] Tryz.f48 0 lk0 [0,1,5,6] [5] [(5,3,64)] (q4 (qL 3) (qL 1) (xLB 0 0 0) qI) (q1 (qB 0 3 64 xLs)) (fun (c,l,b,i,_) (a,_)=>(xc6 c l,(b,i,a),fun p=>(.leaf (.exit 0) [AV.osl 0 0 0 p.1] [bF 0 3 64 p.2]))) (0,[]) fun (c,l,_,_,_) _ (b,i,a)=>(((c,l,b,i,()),(a,())),xiC c l b i a none)
def xn8 (a l:LA):=(Iter (xc6 a l) (0,0,[])).getD (0,[])
def xn6 (a l:LA):=(xn8 a l).fst
def xn7 (a l:LA):=(xn8 a l).snd
def xps {T:Type} (a l:LA) (δ:T) (κ:LA->T):T:=br ((Iter (xc6 a l) (0,0,[])).isSome) (br (decide (0+xn6 a l<=(xn7 a l).length)&&true) (κ (List.take (xn6 a l) (List.drop 0 (xn7 a l)))) δ) δ
def xoO (a l:LA):=xps a l none some
def xDe:EO:=xDt.f Tryz.func48 24 0 [] [(3,xpr.lp)] (lk1 xpr.ok) (u2 (uL 3) (uL 1)) (fun (a,l,_) _=>xps a l) (fun _ p=>AV.list 3 p) []
def xhz (a:LA) (i:Int):=ixI a i
def xkO (a:LA) (i:Int):=xkf (gC a i 0).toInt (gC a i 1).toInt (gC a i 2).toStr
def xiB {T:Type} (a b:LA) (i:Int) (δ:T) (κl:(Int)->T) (κr:(Bool×(Bool)×(Unit))->T):T:=br (decide (i<a.length)) (br (xhz a i) (br (ixT a i 3 [Sh.int .i64,Sh.int .i64,Sh.str] 0) (br ((xkO a i).isSome) (br (!(xkO a i).getD false) (κr (true,(false),())) (br (xhz a i) (br (ixS a i (Sh.int .i64) 0) (br ((gC a i 0).toInt != 0) (br (xhz a i) (br (ixS a i (Sh.int .i64) 0) (br (ixI b i) (br (ixS b i (Sh.int .i64) 0) (br ((gC a i 0).toInt != (gC b i 0).toInt) (κr (true,(false),())) (κl (i64.wrap (i+1)))) δ) δ) δ) δ) (κl (i64.wrap (i+1)))) δ) δ)) δ) δ) δ) (κr (false,false,()))
def xb6 (b a:LA):StT (Int) (Bool×(Bool)×(Unit)):=fun (i)=>xiB b a i none inL inR
def xpo:=xDe.l 43 0 [] [] Tryz.f80 0 lk0 [0,1,5] [4] [] (q3 (qL 3) (qL 1) qI) xLq (fun (b,a,i,_) _=>(xb6 b a,(i),fun p=>(.node p.1 (.leaf .ret [AV.bool p.2.1] []) (.leaf (.exit 0) [.top] [])))) (false,false,()) fun (b,a,_,_) _ (i)=>(((b,a,i,()),()),xiB b a i none)
def xpp {T:Type} (b a:LA) (δ:T) (κ:Bool->T):T:=br ((↑b.length:Int) != (↑a.length:Int)) (κ (false)) (br ((Iter (xb6 b a) 0).isSome) (br (((Iter (xb6 b a) 0).getD (false,false,())).fst) (κ (((Iter (xb6 b a) 0).getD (false,false,())).snd.fst)) (κ (true))) δ)
def xoN (b a:LA):=xpp b a none some
def xHz:EO:=xDe.f Tryz.func80 43 0 [] [(4,xpo.lp)] (lk1 xpo.ok) (u2 (uL 3) (uL 1)) (fun (b,a,_) _=>xpp b a) (fun _ p=>AV.bool p) false
def xvt (k:Int):Bool:=(br (k==1) ((true)) (br (k==2) ((true)) ((k==3))))
def xAa {T:Type} (k:Int) (δ:T) (κ:Bool->T):T:=br (k==1) (κ (true)) (br (k==2) (κ (true)) (κ (k==3)))
def xDf:EO:=xHz.fT Tryz.func109 13 0 [] [] lk0 (fun (k,_)=>xAa k none) (u1 uI) (fun (k,_)=>xvt k) (fun _ p=>(AV.bool p))
def xhQ {T:Type} (l:LA) (i:Int) (δ:T) (κl:(Int)->T) (κr:(Bool×(Bool)×(Unit))->T):T:=br (decide (i<l.length)) (br (ixI l i) (br (ixS l i (Sh.int .i64) 0) (br (!xvt (gC l i 0).toInt) (κr (true,(false),())) (κl (i64.wrap (i+1)))) δ) δ) (κr (false,false,()))
def xbV (l:LA):StT (Int) (Bool×(Bool)×(Unit)):=fun (i)=>xhQ l i none inL inR
def xow:=xDf.l 16 0 [] [] Tryz.f81 0 lk0 [0,3] [2] [] (q2 (qL 1) qI) xLq (fun (l,i,_) _=>(xbV l,(i),fun p=>(.node p.1 (.leaf .ret [AV.bool p.2.1] []) (.leaf (.exit 0) [.top] [])))) (false,false,()) fun (l,_,_) _ (i)=>(((l,i,()),()),xhQ l i none)
def xoi {T:Type} (l:LA) (δ:T) (κ:Bool->T):T:=br ((Iter (xbV l) 0).isSome) (br (((Iter (xbV l) 0).getD (false,false,())).fst) (κ (((Iter (xbV l) 0).getD (false,false,())).snd.fst)) (κ (true))) δ
def xqQ (l:LA):=xoi l none some
def xDg:EO:=xDf.f Tryz.func81 16 0 [] [(2,xow.lp)] (lk1 xow.ok) (u1 (uL 1)) (fun (l,_) _=>xoi l) (fun _ p=>AV.bool p) false
def xhR {T:Type} (i:Int) (b a:LA) (δ:T) (κl:(Int×LA×LA)->T) (κr:(Bool×(Bool×LA×LA)×(LA×LA))->T):T:=br (decide (i<a.length)) (br (ixI a i) (br (ixT a i 3 [Sh.int .i64,Sh.int .i64] 1) (br (!xgA (gC a i 1).toInt (gC a i 2).toInt) (κr (true,(false,b,a),([],[]))) (br (ixI a i) (br (ixS a i (Sh.list 3) 0) (br ((xoN (gC a i 0).toList b).isSome) (br (!(xoN (gC a i 0).toList b).getD false) (κr (true,(false,b,a),([],[]))) (κl (i64.wrap (i+1),b,a))) δ) δ) δ)) δ) δ) (κr (false,(false,[],[]),(b,a)))
def xbW:StT (Int×LA×LA) (Bool×(Bool×LA×LA)×(LA×LA)):=fun (i,a,b)=>xhR i a b none inL inR
def xoy:=xDg.l 46 0 [] [] Tryz.f50 0 lk0 [1,3] [1,2] [] (q2 (xLC 0 0 0 0) qI) (q1 (qB 0 2 84 (q1 (xLD (q2 (qL 1) (qL 3)))))) (fun (_,i,_) (((a,b,_),_),_)=>(xbW,(i,a,b),fun p=>(.node p.1 (.leaf .ret [AV.own 0 0 0 0,AV.bool p.2.1.1] [bF 0 2 84 [AV.agg [AV.list 1 p.2.1.2.1,AV.list 3 p.2.1.2.2]]]) (.leaf (.exit 0) [AV.own 0 0 0 0,.top] [bF 0 2 84 [AV.agg [AV.list 1 p.2.2.1,AV.list 3 p.2.2.2]]])))) (false,(false,[],[]),([],[])) fun _ _ (i,a,b)=>((((),i,()),(((a,b,()),()),())),xhR i a b none)
def xm8 (a b:LA):=(Iter xbW (0,a,b)).getD (false,(false,[],[]),[],[])
def xm7 (a b:LA):=(xm8 a b).snd
def xm6 (a b:LA):=(xm7 a b).snd.fst
def xm4 (a b:LA):=(↑(xm6 a b).length:Int)
def xm5 (a b:LA):=xqQ (xm6 a b)
def xoj {T:Type} (a b:LA) (δ:T) (κ:Bool->T):T:=br ((Iter xbW (0,a,b)).isSome) (br ((xm8 a b).fst) (κ ((xm7 a b).fst.fst)) (br (decide (xm4 a b>0)) (br (decide (xm4 a b<=48)) (br ((xm5 a b).isSome) (κ ((xm5 a b).getD false)) δ) (κ (false))) (κ (false)))) δ
def xnr (a b:LA):=xoj a b none some
def xDh:EO:=xDg.f Tryz.func50 46 0 [] [(2,xoy.lp)] (lk1 xoy.ok) (u1 (xLG (u2 (uL 1) (uL 3)))) (fun ((a,b,_),_) _=>xoj a b) (fun _ p=>AV.bool p) false
def xer (l:LA) (i:Int):=ixI l i
def xjM {T:Type} (l a:LA) (i:Int) (δ:T) (κl:(LA×Int)->T) (κr:(LA)->T):T:=br (decide (i<l.length)) (br (xer l i) (br (ixT l i 2 [Sh.int .i64,Sh.int .i64] 0) (br (xgA (gC l i 0).toInt (gC l i 1).toInt) (br (xer l i) (br (ixS l i (Sh.int .i64) 0) (br ((xfv a (gC l i 0).toInt).isSome) (br (xer l i) (br (ixS l i (Sh.int .i64) 1) (br ((xfv ((xfv a (gC l i 0).toInt).getD []) (gC l i 1).toInt).isSome) (κl ((xfv ((xfv a (gC l i 0).toInt).getD []) (gC l i 1).toInt).getD [],i64.wrap (i+1))) δ) δ) δ) δ) δ) δ) (κl (a,i64.wrap (i+1)))) δ) δ) (κr (a))
def xds (l:LA):StT (LA×Int) (LA):=fun (a,i)=>xjM l a i none inL inR
def xrh {T:Type} (l:LA) (δ:T) (κ:LA->T):T:=br ((Iter (xds l) ([],0)).isSome) (κ ((Iter (xds l) ([],0)).getD [])) δ
def xpm (l:LA):=xrh l none some
def xfI {T:Type} (l:LA) (t i:Int) (δ:T) (κl:(Int)->T) (κr:(Bool×(Bool)×(Unit))->T):T:=br (decide (i<l.length)) (br (ixI l i) (br (ixT l i 2 [Sh.int .i64,Sh.int .i64] 0) (br (xgU (gC l i 0).toInt (gC l i 1).toInt t) (κr (true,(true),())) (κl (i64.wrap (i+1)))) δ) δ) (κr (false,false,()))
def xaT (l:LA) (t:Int):StT (Int) (Bool×(Bool)×(Unit)):=fun (i)=>xfI l t i none inL inR
def xlS:=xDh.l 18 0 [] [] Tryz.f25 0 lk0 [0,1,5] [4] [] (q3 (qL 2) qI qI) xLq (fun (l,t,i,_) _=>(xaT l t,(i),fun p=>(.node p.1 (.leaf .ret [AV.bool p.2.1] []) (.leaf (.exit 0) [.top] [])))) (false,false,()) fun (l,t,_,_) _ (i)=>(((l,t,i,()),()),xfI l t i none)
def xkL {T:Type} (l:LA) (t:Int) (δ:T) (κ:Bool->T):T:=br ((Iter (xaT l t) 0).isSome) (br (((Iter (xaT l t) 0).getD (false,false,())).fst) (κ (((Iter (xaT l t) 0).getD (false,false,())).snd.fst)) (κ (false))) δ
def xc4 (l:LA) (t:Int):=xkL l t none some
def xHA:EO:=xDh.f Tryz.func25 18 0 [] [(2,xlS.lp)] (lk1 xlS.ok) (u2 (uL 2) uI) (fun (l,t,_) _=>xkL l t) (fun _ p=>AV.bool p) false
def xb5 (c:Int) (a b:Bool):Bool:=(br (c==1) (br (a) ((b)) ((false))) (br (c==2) (br (a) ((true)) ((b))) (br (c==3) (br (a) ((!b)) ((false))) (br (!a) ((!b)) ((false))))))
def xdt (a:LA) (i:Int):=decide (0<=i64.wrap (i - 1))&&decide (i64.wrap (i - 1)<(↑a.length:Int))
def xdu (a:LA) (i:Int):=decide ((i64.wrap (i - 1)).toNat<a.length)&&xKF (Sh.int .i64) ((a.getD (i64.wrap (i - 1)).toNat .top).cells.getD 0 .top)
def xbc (a:LA) (i:Int):=((a.getD (i64.wrap (i - 1)).toNat .top).cells.getD 0 .top).toInt
def xe8 (c:LA) (b:Nat) (i:Int) (a:LA):=(xlT b (xbc c i) (gC c i 0).toInt a).getD (false,(0,[],[]),0,[])
def xe6 (c:LA) (b:Nat) (i:Int) (a:LA):=(xe8 c b i a).fst
def xe7 (c:LA) (b:Nat) (i:Int) (a:LA):=(xe8 c b i a).snd
def xe4 (c:LA) (b:Nat) (i:Int) (a:LA):=(xe7 c b i a).fst
def xe5 (c:LA) (b:Nat) (i:Int) (a:LA):=(xe7 c b i a).snd
def xfJ {T:Type} (f:Int) (a b e:LA) (d:Nat) (i:Int) (c:LA) (δ:T) (κl:(Nat×Int×LA)->T) (κr:(Nat×LA)->T):T:=br (decide (i<e.length)) (br (xdt e i) (br (xdu e i) (br ((xc4 a (xbc e i)).isSome) (br (xdt e i) (br (xdu e i) (br ((xc4 b (xbc e i)).isSome) (br (xb5 f ((xc4 a (xbc e i)).getD false) ((xc4 b (xbc e i)).getD false)) (br (xdt e i) (br (xdu e i) (br (ixI e i) (br (ixS e i (Sh.int .i64) 0) (br ((xlT d (xbc e i) (gC e i 0).toInt c).isSome) (κl (br (xe6 e d i c) (xe4 e d i c).fst (xe5 e d i c).fst,i64.wrap (i+1),br (xe6 e d i c) (xe4 e d i c).snd.snd (xe5 e d i c).snd)) δ) δ) δ) δ) δ) (κl (d,i64.wrap (i+1),c))) δ) δ) δ) δ) δ) δ) (κr (d,c))
def xbP (e:Int) (a b f:LA):StT (Nat×Int×LA) (Nat×LA):=fun (d,i,c)=>xfJ e a b f d i c none inL inR
def xeV (a b:LA):Nat:=1+a.length+b.length
def xjS (a b:LA):LA:=[AV.agg [AV.int .i64 0,AV.int .i64 1099511627776]]++a++b
def xjR (a b:LA):=xpm (List.take (xeV a b) (List.drop 0 (xjS a b)))
def xjQ (c:Int) (a b:LA):=Iter (xbP c a b ((xjR a b).getD [])) (0,1,[])
def xjP (c:Int) (a b:LA):=(xjQ c a b).getD (0,[])
def xjN (c:Int) (a b:LA):=(xjP c a b).snd
def xjO (c:Int) (a b:LA):=(xjP c a b).fst
def xpn {T:Type} (c:Int) (a b:LA) (δ:T) (κ:LA->T):T:=br (decide ((1+a.length)*16<=140737488355328)&&decide (1+a.length<=4611686018427387904)) (br (1+a.length==([AV.agg [AV.int .i64 0,AV.int .i64 1099511627776]]++a).length&&(decide (xeV a b*16<=140737488355328)&&decide (xeV a b<=4611686018427387904))) (br (decide (0+xeV a b<=(xjS a b).length)&&true) (br ((xjR a b).isSome) (br ((xjQ c a b).isSome) (br (decide (0+xjO c a b<=(xjN c a b).length)&&true) (κ (List.take (xjO c a b) (List.drop 0 (xjN c a b)))) δ) δ) δ) δ) δ) δ
def xfo (c:Int) (a b:LA):=xpn c a b none some
def xvq {T:Type} (l:LA) (δ:T) (κ:LA->T):T:=br ((xfo 2 l []).isSome) (κ ((xfo 2 l []).getD [])) δ
def xrQ (l:LA):=xvq l none some
def xou {T:Type} (a b:LA) (δ:T) (κ:LA->T):T:=br ((xfo 1 a b).isSome) (κ ((xfo 1 a b).getD [])) δ
def xqh (a b:LA):=xou a b none some
def xl8 {T:Type} (e:List UInt8) (b a c d l:LA) (δ:T) (κ:Bool->T):T:=br ((xnq e b a c d).isSome) (br ((xnq e b a c d).getD 0==0) (br ((xgC e b a c d).isSome) (br ((xnr ((xgC e b a c d).getD []) l).isSome) (κ ((xnr ((xgC e b a c d).getD []) l).getD false)) δ) δ) (κ (false))) δ
def xkr (e:List UInt8) (b a c d l:LA):=xl8 e b a c d l none some
def xHF:EO:=xHA.f Tryz.func28 15 0 [] [] lk0 (u2 (xLG (u5 (sEq pStr) (uL 3) (uL 1) (uL 2) (uL 7))) (uL 3)) (fun ((e,b,a,c,d,_),l,_) _=>xl8 e b a c d l) (fun _ p=>AV.bool p) false
def xqW {T:Type} (f:List UInt8) (c a d e b:LA) (δ:T) (κ:LA->T):T:=br ((xoO b a).isSome) (κ ((xoO b a).getD [])) δ
def xgh (e:List UInt8) (b a c d f:LA):=xqW e b a c d f none some
def xHG:EO:=xHF.f Tryz.func26 9 0 [] [] lk0 (u2 (xLG (u5 (sEq pStr) (uL 3) (uL 1) (uL 2) (uL 7))) (uL 3)) (fun ((e,b,a,c,d,_),g,_) _=>xqW e b a c d g) (fun _ p=>AV.list 3 p) []
def xi6 {T:Type} (l h:LA) (b:Nat) (i:Int) (c:List UInt8) (d e f g a:LA) (δ:T) (κl:(Nat×Int×List UInt8×LA×LA×LA×LA×LA)->T) (κr:(Nat×LA)->T):T:=br (decide (i<l.length)) (br (ixI l i) (br (ixS l i (Sh.list 3) 0) (br ((xgh c d e f g (gC l i 0).toList).isSome) (br ((xaW ((xgh c d e f g (gC l i 0).toList).getD []) h).isSome) (br ((xaW ((xgh c d e f g (gC l i 0).toList).getD []) h).getD 0==0) (br (ixI l i) (br (ixT l i 3 [Sh.int .i64,Sh.int .i64] 1) (br (rmB b a 1 16) (κl (b+1,i64.wrap (i+1),c,d,e,f,g,a++[AV.agg [AV.int .i64 (gC l i 1).toInt,AV.int .i64 (gC l i 2).toInt]])) δ) δ) δ) (κl (b,i64.wrap (i+1),c,d,e,f,g,a))) δ) δ) δ) δ) (κr (b,a))
def xdb (l c:LA):StT (Nat×Int×List UInt8×LA×LA×LA×LA×LA) (Nat×LA):=fun (b,i,d,e,f,g,h,a)=>xi6 l c b i d e f g h a none inL inR
def xkX (e:List UInt8) (b a c d l f:LA):=Iter (xdb l f) (0,0,e,b,a,c,d,[])
def xkW (e:List UInt8) (b a c d l f:LA):=(xkX e b a c d l f).getD (0,[])
def xkU (e:List UInt8) (b a c d l f:LA):=(xkW e b a c d l f).fst
def xkV (e:List UInt8) (b a c d l f:LA):=(xkW e b a c d l f).snd
def xqn {T:Type} (e:List UInt8) (b a c d l f:LA) (δ:T) (κ:LA->T):T:=br ((xkX e b a c d l f).isSome) (br (decide (0+xkU e b a c d l f<=(xkV e b a c d l f).length)&&true) (κ (List.take (xkU e b a c d l f) (List.drop 0 (xkV e b a c d l f)))) δ) δ
def xib (e:List UInt8) (b a c d l f:LA):=xqn e b a c d l f none some
def xpI {T:Type} (e:List UInt8) (b a c d l f:LA) (δ:T) (κ:LA->T):T:=br ((xib e b a c d l f).isSome) (br ((xrQ ((xib e b a c d l f).getD [])).isSome) (κ ((xrQ ((xib e b a c d l f).getD [])).getD [])) δ) δ
def xrk (e:List UInt8) (b a c d l f:LA):=xpI e b a c d l f none some
def xHh:EO:=xDa.w xAg
def xa8 (r:LA) (e:List UInt8) (b a c d:LA):=(xf0 ((xdw e b a c d r).getD [])).getD []
def xly (r:LA) (f t:Int) (e:List UInt8) (b a c d g:LA):=decide ((xa8 r e b a c d).length<=4611686018427387904)
def xee (r:LA) (f:List UInt8) (b a c d e:LA):=((e.getD (putIx e (xa8 r f b a c d)) .top).cells.getD 1 .top).toList.length
def xoG (r:LA) (f t:Int) (g:List UInt8) (b a c d e:LA):=((e.getD (putIx e (xa8 r g b a c d)) .top).cells.getD 1 .top).toList++[AV.agg [AV.int .i64 f,AV.int .i64 t,AV.int .i64 1]]
def xlz (r:LA) (f:List UInt8) (c a d e b:LA):=b.set (putIx b (xa8 r f c a d e)) (AV.agg (List.take 1 (b.getD (putIx b (xa8 r f c a d e)) .top).cells++[AV.int .i64 (↑(xee r f c a d e b):Int)]++List.drop 2 (b.getD (putIx b (xa8 r f c a d e)) .top).cells))
def xjm (r:LA) (e:List UInt8) (b a c d f:LA):=xee r e b a c d f+1
def xqa {T:Type} (r:LA) (f t:Int) (g:List UInt8) (b a c d e:LA) (δ:T) (κ:LA->T):T:=br ((xdw g b a c d r).isSome) (br ((xf0 ((xdw g b a c d r).getD [])).isSome) (br (xly r f t g b a c d e) (br (xLa e (xa8 r g b a c d)) (br (xLl 3 ((e.getD (putIx e (xa8 r g b a c d)) .top).cells.getD 1 .top)) (br (decide (putIx e (xa8 r g b a c d)<e.length)&&(xLl 3 ((e.getD (putIx e (xa8 r g b a c d)) .top).cells.getD 1 .top)&&((e.getD (putIx e (xa8 r g b a c d)) .top).cells.length==2&&(2*xee r g b a c d e==2*xee r g b a c d e&&(xee r g b a c d e==xee r g b a c d e&&(xee r g b a c d e==xee r g b a c d e&&(decide (xjm r g b a c d e*24<=140737488355328)&&decide (xjm r g b a c d e<=4611686018427387904)))))))) (br (xjm r g b a c d e==(xoG r f t g b a c d e).length&&(decide ((xlz r g b a c d e).length<4611686018427387904)&&(xly r f t g b a c d e&&deadR (xlz r g b a c d e) (xa8 r g b a c d) (xjm r g b a c d e)))) (κ (xKX (xlz r g b a c d e) (xa8 r g b a c d) (AV.list 3 (xoG r f t g b a c d e)))) δ) δ) δ) (br (decide (e.length<4611686018427387904)&&(xly r f t g b a c d e&&deadR e (xa8 r g b a c d) 1)) (κ (xKX e (xa8 r g b a c d) (AV.list 3 [AV.agg [AV.int .i64 f,AV.int .i64 t,AV.int .i64 1]]))) δ)) δ) δ) δ
def crowds1 (r:LA) (f t:Int) (e:List UInt8) (b a c d g:LA):=xqa r f t e b a c d g none some
def xnv:EO:=xHh.fM Tryz.func52 20 1 [1000058,8000000] [] lk0 (u3 (xLG (u3 (uL 3) uI uI)) (sEq (xLI 5 0 0 (q1 (xLD (q5 pStr (qL 3) (qL 1) (qL 2) (qL 7)))))) (sEq (xK3 (1099511627776:FuncId) (q1 (xLC 0 0 0 0))))) (q1 (qB 0 2 1208926202420975661744128 xLs)) (fun ((r,f,t,_),((e,b,a,c,d,_),_),(_,_),_) (g,_) _=>xqa r f t e b a c d g) (fun _ _ p=>(AV.tuple [],([bF 0 2 1208926202420975661744128 p]:List Box))) []
end Go.Sim.M
