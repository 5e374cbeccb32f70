/- Part 13 of the proof of the law. -/
import Derived.Test.YtcekkkdjdfiipaaGreatDoorUF12
import Derived.StillTailTactics
set_option linter.unusedVariables false
set_option linter.unusedSimpArgs false
set_option maxRecDepth 100000
noncomputable section
namespace Go.Sim.M
abbrev TyE:Type:=Fin 1099511627777×Int×Int
def intsE (x:TyE):List Int:=[(x.1.val:Int),x.2.1,x.2.2]
def cmpE (x y:TyE):Int:=(x.1.val:Int) - (y.1.val:Int)
end Go.Sim.M
namespace Go.Proofs
open Go.RowKit Go.Sim Go.Sim.M Go.Sort
set_option maxHeartbeats 1000000 in
theorem Tryz.walkE (a b c a' b' c' r:Int) (hr:IntKind.i64.wrap (a - a')=r) (W:World):Calls Tryz.prog 116 #[.agg #[.int .i64 a,.int .i64 b,.int .i64 c],.agg #[.int .i64 a',.int .i64 b',.int .i64 c']] W fun e w'=>e=.returned (.int .i64 r)/\∃ q os',w'=Sort.grow (W.drewN q) os':=by
 go_enter Tryz.func116,Tryz.ntmps116
 go_wp2
 go_ret
 subst hr;exact ⟨rfl,0,_,by rw [alloc_eq_grow,alloc_eq_grow,grow_grow];rfl⟩
end Go.Proofs
namespace Go.Sim.M
open Go.RowKit Go.Proofs Go.Sort
def isE:AV->Bool
 | .agg [.int .i64 a,.int .i64 _,.int .i64 _]=>decide (0<=a)&&decide (a<=1099511627776)
 | _=>false
def decE:AV->TyE
 | .agg [.int _ a,.int _ b,.int _ c]=>(Fin.ofNat 1099511627777 a.toNat,b,c)
 | _=>default
noncomputable def srtE (xs:List AV):List AV:=(pdqL cmpE (xs.map decE)).map (encI intsE)
theorem xFf {x:AV} (h:isE x=true):encI intsE (decE x)=x:=by
 unfold isE at h;split at h
 . rename_i a b c;simp only [Bool.and_eq_true,decide_eq_true_eq] at h;have:a.toNat % 1099511627777=a.toNat:=Nat.mod_eq_of_lt (by omega)
   simp only [decE,encI,intsE,List.map_cons,List.map_nil,Fin.ofNat,this,Int.toNat_of_nonneg h.1]
 . simp at h
theorem xDN {xs:List AV} (h:xs.all isE=true):(xs.map decE).map (encI intsE)=xs:=by
 rw [List.map_map]
 conv=>rhs;rw [<-List.map_id xs]
 refine List.map_congr_left fun x hx=>?_
 exact xFf (List.all_eq_true.1 h x hx)
theorem ltE (x y:TyE):ltOf cmpE x y=decide (x.1.val<y.1.val):=by
 unfold ltOf cmpE;by_cases h:x.1.val<y.1.val
 . rw [decide_eq_true h,decide_eq_true (by omega)]
 . rw [decide_eq_false h,decide_eq_false (by omega)]
theorem swoE:SWO (ltOf cmpE) where
 irrefl x:=by rw [ltE];simp
 trans x y z h1 h2:=by rw [ltE] at *;simp at *;omega
 ntrans x y z h1 h2:=by rw [ltE] at *;simp at *;omega
noncomputable def xwb:List AV->List Box->Option (Bool×AV×List Box)
 | [.osl (.b 0) ver 0 n,.func g []],[⟨ver',3,ty,xs,false,true⟩]=>match Nat.beq g 116&&Nat.beq ty 132 with
  | true=>some (Nat.beq ver ver'&&(Nat.beq n xs.length&&(decide (n<4611686018427387904)&&xs.all isE)),.tuple [],[⟨ver',3,132,srtE xs,false,true⟩])
  | false=>none
 | _,_=>none
theorem xG7:OmOk Tryz.prog xLp 115 xwb:=fun Q H r H' h=>by
 unfold xwb at h;split at h
 . rename_i ver n g O ty xs;split at h
   case h_2=>simp at h
   rename_i hg;simp only [Bool.and_eq_true] at hg;obtain rfl:=Nat.eq_of_beq_eq_true hg.1;obtain rfl:=Nat.eq_of_beq_eq_true hg.2;simp only [Option.some.injEq,Prod.mk.injEq,Bool.and_eq_true,decide_eq_true_eq] at h;obtain ⟨⟨h1,h2,h3,h4⟩,rfl,rfl⟩:=h;obtain rfl:=Nat.eq_of_beq_eq_true h1;obtain rfl:=Nat.eq_of_beq_eq_true h2;have q:∃ ti,xKI Tryz.prog 132=some ti/\ti.sz=3/\ti.agg=true:=by
    have h:(match xKI Tryz.prog 132 with|some ti=>(ti.sz==3)&&ti.agg|none=>false)=true:=by kernel_rfl
    split at h
    . rename_i ti q;simp only [Bool.and_eq_true,beq_iff_eq] at h;exact ⟨ti,q,h.1,h.2⟩
    . simp at h
   obtain ⟨ti,q,hz,ha⟩:=q;have J:=xsd (P:=Tryz.prog) (Inv:=xLp) Tryz.srl115 3 (by decide) (fun w=>by rw [<-ha];exact xk3 q w) (fun w=>by rw [<-hz];exact xcX q w)
    intsE (fun _=>rfl) cmpE swoE 116 rfl (xd5 Tryz.func115 rfl (by kernel_rfl)) (xo8 (xd5 Tryz.func116 rfl (by kernel_rfl)))
    (fun x y W=>Tryz.walkE _ _ _ _ _ _ (cmpE x y) (by
     have:=x.1.isLt;have:=y.1.isLt;unfold cmpE;exact xdU (by omega) (by omega)) W)
    ver 132 rfl (xs.map decE) (by simpa using h3)
   rw [List.length_map,xDN h4] at J;exact J
 . simp at h
end Go.Sim.M
namespace Go.Sim.M
abbrev TyS:Type:=Fin 1099511627777×Int
def intsS (x:TyS):List Int:=[(x.1.val:Int),x.2]
def cmpS (x y:TyS):Int:=(x.1.val:Int) - (y.1.val:Int)
end Go.Sim.M
namespace Go.Proofs
open Go.RowKit Go.Sim Go.Sim.M Go.Sort
set_option maxHeartbeats 1000000 in
theorem Tryz.walkS (a b a' b' r:Int) (hr:IntKind.i64.wrap (a - a')=r) (W:World):Calls Tryz.prog 84 #[.agg #[.int .i64 a,.int .i64 b],.agg #[.int .i64 a',.int .i64 b']] W fun e w'=>e=.returned (.int .i64 r)/\∃ q os',w'=Sort.grow (W.drewN q) os':=by
 go_enter Tryz.func84,Tryz.ntmps84
 go_wp2
 go_ret
 subst hr;exact ⟨rfl,0,_,by rw [alloc_eq_grow,alloc_eq_grow,grow_grow];rfl⟩
end Go.Proofs
namespace Go.Sim.M
open Go.RowKit Go.Proofs Go.Sort
def isS:AV->Bool
 | .agg [.int .i64 a,.int .i64 _]=>decide (0<=a)&&decide (a<=1099511627776)
 | _=>false
def decS:AV->TyS
 | .agg [.int _ a,.int _ b]=>(Fin.ofNat 1099511627777 a.toNat,b)
 | _=>default
noncomputable def srtS (xs:List AV):List AV:=(pdqL cmpS (xs.map decS)).map (encI intsS)
theorem xFg {x:AV} (h:isS x=true):encI intsS (decS x)=x:=by
 unfold isS at h;split at h
 . rename_i a b;simp only [Bool.and_eq_true,decide_eq_true_eq] at h;have:a.toNat % 1099511627777=a.toNat:=Nat.mod_eq_of_lt (by omega)
   simp only [decS,encI,intsS,List.map_cons,List.map_nil,Fin.ofNat,this,Int.toNat_of_nonneg h.1]
 . simp at h
theorem xDO {xs:List AV} (h:xs.all isS=true):(xs.map decS).map (encI intsS)=xs:=by
 rw [List.map_map]
 conv=>rhs;rw [<-List.map_id xs]
 refine List.map_congr_left fun x hx=>?_
 exact xFg (List.all_eq_true.1 h x hx)
theorem ltS (x y:TyS):ltOf cmpS x y=decide (x.1.val<y.1.val):=by
 unfold ltOf cmpS;by_cases h:x.1.val<y.1.val
 . rw [decide_eq_true h,decide_eq_true (by omega)]
 . rw [decide_eq_false h,decide_eq_false (by omega)]
theorem swoS:SWO (ltOf cmpS) where
 irrefl x:=by rw [ltS];simp
 trans x y z h1 h2:=by rw [ltS] at *;simp at *;omega
 ntrans x y z h1 h2:=by rw [ltS] at *;simp at *;omega
noncomputable def xwc:List AV->List Box->Option (Bool×AV×List Box)
 | [.osl (.b 0) ver 0 n,.func g []],[⟨ver',2,ty,xs,false,true⟩]=>match Nat.beq g 84&&Nat.beq ty 121 with
  | true=>some (Nat.beq ver ver'&&(Nat.beq n xs.length&&(decide (n<4611686018427387904)&&xs.all isS)),.tuple [],[⟨ver',2,121,srtS xs,false,true⟩])
  | false=>none
 | _,_=>none
theorem xG8:OmOk Tryz.prog xLp 83 xwc:=fun Q H r H' h=>by
 unfold xwc at h;split at h
 . rename_i ver n g O ty xs;split at h
   case h_2=>simp at h
   rename_i hg;simp only [Bool.and_eq_true] at hg;obtain rfl:=Nat.eq_of_beq_eq_true hg.1;obtain rfl:=Nat.eq_of_beq_eq_true hg.2;simp only [Option.some.injEq,Prod.mk.injEq,Bool.and_eq_true,decide_eq_true_eq] at h;obtain ⟨⟨h1,h2,h3,h4⟩,rfl,rfl⟩:=h;obtain rfl:=Nat.eq_of_beq_eq_true h1;obtain rfl:=Nat.eq_of_beq_eq_true h2;have q:∃ ti,xKI Tryz.prog 121=some ti/\ti.sz=2/\ti.agg=true:=by
    have h:(match xKI Tryz.prog 121 with|some ti=>(ti.sz==2)&&ti.agg|none=>false)=true:=by kernel_rfl
    split at h
    . rename_i ti q;simp only [Bool.and_eq_true,beq_iff_eq] at h;exact ⟨ti,q,h.1,h.2⟩
    . simp at h
   obtain ⟨ti,q,hz,ha⟩:=q;have J:=xsd (P:=Tryz.prog) (Inv:=xLp) Tryz.srl83 2 (by decide) (fun w=>by rw [<-ha];exact xk3 q w) (fun w=>by rw [<-hz];exact xcX q w)
    intsS (fun _=>rfl) cmpS swoS 84 rfl (xd5 Tryz.func83 rfl (by kernel_rfl)) (xo8 (xd5 Tryz.func84 rfl (by kernel_rfl)))
    (fun x y W=>Tryz.walkS _ _ _ _ (cmpS x y) (by
     have:=x.1.isLt;have:=y.1.isLt;unfold cmpS;exact xdU (by omega) (by omega)) W)
    ver 121 rfl (xs.map decS) (by simpa using h3)
   rw [List.length_map,xDO h4] at J;exact J
 . simp at h
end Go.Sim.M
namespace Go.Sim.M
open Go.RowKit Go.Proofs
noncomputable def E1:Env:=(xF9.E.withM 83 xwc).withM 115 xwb
theorem xF6:xKJ Tryz.prog xLp E1:=(xF9.ok.withM xG8).withM xG7
noncomputable def xIK:EO:=EO.mk E1 xF6
end Go.Sim.M
namespace Go.Sim.M
open Go.IntKind (i64 u64 u8)
open Go.RowKit Go.Proofs
def xha:Env:=E1.fn 29 1 (lsOf []) (xK4 [])
theorem xvu:xKJ P0 (xLp.at 1) xha:=xF6.fn
theorem xtu:LoOk P0 (xLp.at xha.pin) xha (Tryz.f85.body.getD .skip):=xgk (by kernel_rfl)
def xow {T:Type} (k:Nat) (a n:Int) (b:LA) (δ:T) (κ:Bool×(Nat×LA)×(Nat×LA)->T):T:=br (rmB k b 1 16) (κ (false,(0,[]),(k+1,b++[AV.agg [AV.int .i64 a,AV.int .i64 n]]))) δ
def xq3 {T:Type} (k:Nat) (b n:Int) (a:LA) (δ:T) (κ:Bool×(Nat×LA)×(Nat×LA)->T):T:=br (decide ((↑k:Int)>0)) (br (decide (0<=i64.wrap ((↑k:Int) - 1))&&decide (i64.wrap ((↑k:Int) - 1)<(↑k:Int))) (br (decide (0+(i64.wrap ((↑k:Int) - 1)).toNat<a.length)&&xKH (Sh.int .i64) ((a.getD (0+(i64.wrap ((↑k:Int) - 1)).toNat) .top).cells.getD 1 .top)) (br (((a.getD (0+(i64.wrap ((↑k:Int) - 1)).toNat) .top).cells.getD 1 .top).toInt==n) (κ (true,(k,a),(0,[]))) (xow k b n a δ κ)) δ) δ) (xow k b n a δ κ)
def xcG (k:Nat) (a n:Int) (b:LA):=xq3 k a n b none some
theorem xA7 (k:Nat) (a n:Int) (xs:LA):Enc (fun (p:Bool×(Nat×LA)×(Nat×LA))=>((br p.1 ((AV.osl 0 0 0 p.2.1.1,([⟨0,2,121,p.2.1.2,false,true⟩]:List Box))) ((AV.osl 0 1 0 p.2.2.1,([⟨1,2,121,p.2.2.2,false,true⟩]:List Box)))):(AV×List Box))) (xcG k a n xs) (XFM P0 xha Tryz.f85 (Tryz.f85.body.getD .skip) [AV.osl (0:Id) 0 0 k,AV.int .i64 a,AV.int .i64 n] [{ ver:=0,sz:=2,ty:=(121:TypeId),xs:=xs,frz:=false,pm:=true }]):=by
 have h:XFM P0 xha Tryz.f85 (Tryz.f85.body.getD .skip) [AV.osl (0:Id) 0 0 k,AV.int .i64 a,AV.int .i64 n] [{ ver:=0,sz:=2,ty:=(121:TypeId),xs:=xs,frz:=false,pm:=true }]=xq3 k a n xs none (fun (p:Bool×(Nat×LA)×(Nat×LA))=>some ((br p.1 ((AV.osl 0 0 0 p.2.1.1,([⟨0,2,121,p.2.1.2,false,true⟩]:List Box))) ((AV.osl 0 1 0 p.2.2.1,([⟨1,2,121,p.2.2.2,false,true⟩]:List Box)))):(AV×List Box))):=by kernel_rfl
 rw [h];unfold xcG xq3 xow;repeat' (first|refine Enc.br ?_ ?_|exact Enc.none|exact Enc.some rfl)
def xA6:LA->List Box->Option (Bool×AV×List Box):=omOf (xLr (sEq (xLD 0 0 0)) (xLr (sEq (pInt .i64)) (xLr (sEq (pInt .i64)) xLt))) (xLq (xLG 0 2 (121:TypeId) false true xLu) xLs) fun (k,(a,(n,_))) (b,_)=>((xcG k a n b).isSome,(AV.osl 0 1 0 (br ((xcG k a n b).getD (false,(0,[]),(0,[]))).1 ((xcG k a n b).getD (false,(0,[]),(0,[]))).2.1.1 ((xcG k a n b).getD (false,(0,[]),(0,[]))).2.2.1),([⟨1,2,121,(br ((xcG k a n b).getD (false,(0,[]),(0,[]))).1 ((xcG k a n b).getD (false,(0,[]),(0,[]))).2.1.2 ((xcG k a n b).getD (false,(0,[]),(0,[]))).2.2.2),false,true⟩]:List Box)))
theorem xA5:OmOk P0 xLp 85 (xA6):=xra fun e f j i g=>by
 obtain ⟨k,⟨b,⟨n,_⟩⟩⟩:=e;obtain ⟨h,_⟩:=f;obtain ⟨c,a⟩:=Prod.mk.inj g;have hx:=xA7 _ _ _ _ _ (xaL (d:=(false,(0,[]),(0,[]))) c);revert hx a;generalize ((xcG k b n h).getD (false,(0,[]),(0,[])))=p;intro a hx;obtain ⟨rfl,rfl⟩:=Prod.mk.inj a;obtain ⟨t,⟨l,m⟩,o,q⟩:=p;have hg:GoodM P0 xLp 85 _ _ _ _:=xnK (p:=xha.pin) (xnJ xKS (xKT P0 _) rfl xvu rfl Tryz.func85 rfl (by kernel_rfl) xtu hx)
 cases t
 . exact hg
 . exact GoodM.bump1 rfl (by decide) hg
def xsr:EO:=xIK.wM xA5
def xkn {T:Type} (d:LA) (e:Int) (b:Nat) (c:Int) (a:LA) (δ:T) (κl:(Nat×Int×LA)->T) (κr:(Nat×LA)->T):T:=br (decide (c<e)) (br (ixI d c) (br (ixT d c 3 [Sh.int .i64,Sh.int .i64,Sh.int .i64] 0) (br (xdh (gC d c 0).toInt (gC d c 1).toInt) (br (rmB b a 2 16) (κl (b+2,i64.wrap (c+1),a++[AV.agg [AV.int .i64 (gC d c 0).toInt,AV.int .i64 (gC d c 2).toInt],AV.agg [AV.int .i64 (gC d c 1).toInt,AV.int .i64 (i64.wrap (0 - (gC d c 2).toInt))]])) δ) (κl (b,i64.wrap (c+1),a))) δ) δ) (κr (b,a))
def xdR (c:LA) (d:Int):StT (Nat×Int×LA) (Nat×LA):=fun (b,e,a)=>xkn c d b e a none inL inR
def xgZ:=xsr.l 106 0 [] [] Tryz.f54 0 lk0 [3,10,11,12] [3] [(3,2,121)] (q4 (xLD 0 0 0) (qL 3) qI qI) (q1 (qB 0 2 121 xLu)) (fun (b,c,d,e,_) (a,_)=>(xdR c d,(b,e,a),fun p=>(.leaf (.exit 0) [AV.osl 0 0 0 p.1] [bF 0 2 121 p.2]))) (0,[]) fun (_,c,d,_,_) _ (b,e,a)=>(((b,c,d,e,()),(a,())),xkn c d b e a none)
def xrj (i:Int) (a:LA):=decide (0+i.toNat<a.length)
def xse {T:Type} (b e:Nat) (d i:Int) (a c:LA) (δ:T) (κl:(Int×Int×LA×LA)->T) (κr:(Int×Int×LA×LA)->T):T:=br (decide (i<(↑b:Int))) (br (decide (0<=i)&&decide (i<(↑b:Int))) (br (xrj i a&&xKH (Sh.int .i64) ((a.getD (0+i.toNat) .top).cells.getD 0 .top)) (br (((a.getD (0+i.toNat) .top).cells.getD 0 .top).toInt==0) (br (decide (0<=i)&&decide (i<(↑b:Int))) (br (xrj i a&&xKH (Sh.int .i64) ((a.getD (0+i.toNat) .top).cells.getD 1 .top)) (κl (i64.wrap (d+((a.getD (0+i.toNat) .top).cells.getD 1 .top).toInt),i64.wrap (i+1),a,c)) δ) δ) (κr (d,i,a,c))) δ) δ) (κr (d,i,a,c))
def xhM (b d:Nat):StT (Int×Int×LA×LA) (Int×Int×LA×LA):=fun (e,i,a,c)=>xse b d e i a c none inL inR
def xju:=xsr.l 106 0 [] [(3,xgZ.lp)] Tryz.f54 1 lk0 [3,6,7,8] [3,6,7,8] [(3,2,121),(6,2,121)] (q4 (xLD 0 0 0) (xLD 1 0 0) qI qI) (q2 (qB 0 2 121 xLu) (qB 0 2 121 xLu)) (fun (a,c,e,i,_) (b,d,_)=>(xhM a c,(e,i,b,d),fun p=>(.leaf (.exit 2) [AV.osl 0 0 0 a,AV.osl 1 0 0 c,AV.int .i64 p.1,AV.int .i64 p.2.1] [bF 0 2 121 p.2.2.1,bF 0 2 121 p.2.2.2]))) (0,0,[],[]) fun (a,c,_,_,_) _ (e,i,b,d)=>(((a,c,e,i,()),(b,d,())),xse a c e i b d none)
def xg9 (i:Int) (a:LA):=decide (0+i.toNat<a.length)
def xh4 {T:Type} (b f:Nat) (e d i:Int) (a c:LA) (δ:T) (κl:(Int×Int×LA×LA)->T) (κr:(Int×Int×LA×LA)->T):T:=br (decide (i<(↑b:Int))) (br (decide (0<=i)&&decide (i<(↑b:Int))) (br (xg9 i a&&xKH (Sh.int .i64) ((a.getD (0+i.toNat) .top).cells.getD 0 .top)) (br (((a.getD (0+i.toNat) .top).cells.getD 0 .top).toInt==e) (br (decide (0<=i)&&decide (i<(↑b:Int))) (br (xg9 i a&&xKH (Sh.int .i64) ((a.getD (0+i.toNat) .top).cells.getD 1 .top)) (κl (i64.wrap (d+((a.getD (0+i.toNat) .top).cells.getD 1 .top).toInt),i64.wrap (i+1),a,c)) δ) δ) (κr (d,i,a,c))) δ) δ) (κr (d,i,a,c))
def xcY (b d:Nat) (e:Int):StT (Int×Int×LA×LA) (Int×Int×LA×LA):=fun (f,i,a,c)=>xh4 b d e f i a c none inL inR
def xjv:=xsr.l 106 0 [] [(3,xgZ.lp),(11,xju.lp)] Tryz.f54 3 lk0 [3,6,7,8,9] [3,6,7,8,9] [(3,2,121),(6,2,121)] (q5 (xLD 0 0 0) (xLD 1 0 0) qI qI qI) (q2 (qB 0 2 121 xLu) (qB 0 2 121 xLu)) (fun (a,c,f,i,e,_) (b,d,_)=>(xcY a c e,(f,i,b,d),fun p=>(.leaf (.exit 6) [AV.osl 0 0 0 a,AV.osl 1 0 0 c,AV.int .i64 p.1,AV.int .i64 p.2.1,AV.int .i64 e] [bF 0 2 121 p.2.2.1,bF 0 2 121 p.2.2.2]))) (0,0,[],[]) fun (a,c,_,_,e,_) _ (f,i,b,d)=>(((a,c,f,i,e,()),(b,d,())),xh4 a c e f i b d none)
def xgd (i:Int) (a:LA):=decide (0+i.toNat<a.length)&&xKH (Sh.int .i64) ((a.getD (0+i.toNat) .top).cells.getD 0 .top)
def xev (i:Int) (a:LA):=((a.getD (0+i.toNat) .top).cells.getD 0 .top).toInt
def xge (b d:Nat) (e i:Int) (a c:LA):=Iter (xcY b d (xev i a)) (e,i,a,c)
def xg8 (b d:Nat) (e i:Int) (a c:LA):=(xge b d e i a c).getD (0,0,[],[])
def xg6 (b d:Nat) (e i:Int) (a c:LA):=(xg8 b d e i a c).snd
def xg7 (b d:Nat) (e i:Int) (a c:LA):=(xg8 b d e i a c).fst
def xg5 (b d:Nat) (e i:Int) (a c:LA):=(xg6 b d e i a c).snd
def xg4 (b c:Nat) (e i:Int) (a d:LA):=xcG c (xev i a) (xg7 b c e i a d) (xg5 b c e i a d).snd
def xg3 (b d:Nat) (e i:Int) (a c:LA):=(xg4 b d e i a c).getD (false,(0,[]),0,[])
def xg1 (b d:Nat) (e i:Int) (a c:LA):=(xg3 b d e i a c).fst
def xg2 (b d:Nat) (e i:Int) (a c:LA):=(xg3 b d e i a c).snd
def xgx (b d:Nat) (e i:Int) (a c:LA):=(xg2 b d e i a c).fst
def xg0 (b d:Nat) (e i:Int) (a c:LA):=(xg2 b d e i a c).snd
def xh3 {T:Type} (b d:Nat) (e i:Int) (a c:LA) (δ:T) (κl:(Nat×Int×Int×LA×LA)->T) (κr:(Nat×LA)->T):T:=br (decide (i<(↑b:Int))) (br (decide (0<=i)&&decide (i<(↑b:Int))) (br (xgd i a) (br (decide (xev i a<1099511627776)) (br (decide (0<=i)&&decide (i<(↑b:Int))) (br (xgd i a) (br ((xge b d e i a c).isSome) (br ((xg4 b d e i a c).isSome) (κl (br (xg1 b d e i a c) (xgx b d e i a c).fst (xg0 b d e i a c).fst,xg7 b d e i a c,(xg6 b d e i a c).fst,(xg5 b d e i a c).fst,br (xg1 b d e i a c) (xgx b d e i a c).snd (xg0 b d e i a c).snd)) δ) δ) δ) δ) (κr (d,c))) δ) δ) (κr (d,c))
def xdS (b:Nat):StT (Nat×Int×Int×LA×LA) (Nat×LA):=fun (d,e,i,a,c)=>xh3 b d e i a c none inL inR
def xrk:=xsr.l 106 0 [] [(3,xgZ.lp),(11,xju.lp),(17,xjv.lp)] Tryz.f54 2 (lk1 xjv.ok) [3,6,7,8] [6] [(3,2,121),(6,2,121)] (q4 (xLD 0 0 0) (xLD 1 0 0) qI qI) (q2 (qB 0 2 121 xLu) (qB 0 2 121 xLu)) (fun (b,d,e,i,_) (a,c,_)=>(xdS b,(d,e,i,a,c),fun p=>(.leaf (.exit 4) [AV.osl 0 0 0 p.1] [bF 0 2 121 p.2]))) (0,[]) fun (b,_,_,_,_) _ (d,e,i,a,c)=>(((b,d,e,i,()),(a,c,())),xh3 b d e i a c none)
def xpW (l:LA):=(Iter (xdR l (↑l.length:Int)) (0,0,[])).getD (0,[])
def xi5 (l:LA):=(xpW l).fst
def xl7 (l:LA):=(xpW l).snd
def xpV (l:LA):=Iter (xhM (xi5 l) 0) (0,0,srtS (xl7 l),[])
def xpU (l:LA):=(xpV l).getD (0,0,[],[])
def xpS (l:LA):=(xpU l).fst
def xpT (l:LA):=(xpU l).snd
def xpR (l:LA):=(xpT l).snd
def xq2 (l:LA):=xcG 0 0 (xpS l) (xpR l).snd
def xq1 (l:LA):=(xq2 l).getD (false,(0,[]),0,[])
def xqx (l:LA):=(xq1 l).snd
def xq0 (l:LA):=(xq1 l).fst
def xqY (l:LA):=(xqx l).snd
def xqZ (l:LA):=(xqx l).fst
def xqX (l:LA):=Iter (xdS (xi5 l)) (br (xq0 l) (xqZ l).fst (xqY l).fst,xpS l,(xpT l).fst,(xpR l).fst,br (xq0 l) (xqZ l).snd (xqY l).snd)
def xqW (l:LA):=(xqX l).getD (0,[])
def xqU (l:LA):=(xqW l).fst
def xqV (l:LA):=(xqW l).snd
def xrU {T:Type} (l:LA) (δ:T) (κ:LA->T):T:=br ((Iter (xdR l (↑l.length:Int)) (0,0,[])).isSome) (br ((xi5 l).beq (xl7 l).length&&(decide (xi5 l<4611686018427387904)&&(xl7 l).all isS)) (br ((xpV l).isSome) (br ((xq2 l).isSome) (br ((xqX l).isSome) (br (decide (0+xqU l<=(xqV l).length)&&true) (κ (List.take (xqU l) (List.drop 0 (xqV l)))) δ) δ) δ) δ) δ) δ
def xhL (l:LA):=xrU l none some
def xC6:EO:=xsr.f Tryz.func54 106 0 [] [(3,xgZ.lp),(11,xju.lp),(17,xjv.lp),(15,xrk.lp)] (lks (lkC xgZ.ok (lkC xju.ok (lkC xrk.ok (lkC xjv.ok lkN))))) (u1 (uL 3)) (fun (l,_) _=>xrU l) (fun _ p=>AV.list 2 p) []
def xaO (l:LA) (n:Int) (a:LA) (e:Int) (d:Nat) (b:Int) (c:LA):=decide ((gC a b 1).toInt<n)
def xav (a:Nat):=decide (0<=i64.wrap ((↑a:Int) - 1))&&decide (i64.wrap ((↑a:Int) - 1)<(↑a:Int))
def xae (a:Nat):Nat:=0+(i64.wrap ((↑a:Int) - 1)).toNat
def xaP (l:LA) (a:Int):=decide (i64.wrap (a+1)<(↑l.length:Int))
def xaw (b:Nat) (a:LA):=decide (xae b<a.length)
def xaA {T:Type} (l d:LA) (b:Nat) (c:Int) (a:LA) (δ:T) (κl:(Nat×Int×LA)->T):T:=br (rmB b a 1 16) (κl (b+1,i64.wrap (c+1),a++[AV.agg [AV.int .i64 (gC d c 0).toInt,AV.int .i64 ((l.getD (i64.wrap (c+1)).toNat .top).cells.getD 0 .top).toInt]])) δ
def xaB {T:Type} (d:LA) (b:Nat) (c:Int) (a:LA) (δ:T) (κl:(Nat×Int×LA)->T):T:=br (rmB b a 1 16) (κl (b+1,i64.wrap (c+1),a++[AV.agg [AV.int .i64 (gC d c 0).toInt,AV.int .i64 1099511627776]])) δ
def xaI {T:Type} (l:LA) (n:Int) (d:LA) (e:Int) (a:Nat) (c:Int) (b:LA) (δ:T) (κl:(Nat×Int×LA)->T) (κr:(Nat×LA)->T):T:=br (decide (c<e)) (br (ixI d c) (br (ixT d c 2 [Sh.int .i64,Sh.int .i64] 0) (br (xaP l c) (br (decide (0<=i64.wrap (c+1))&&xaP l c) (br (decide ((i64.wrap (c+1)).toNat<l.length)&&xKH (Sh.int .i64) ((l.getD (i64.wrap (c+1)).toNat .top).cells.getD 0 .top)) (br (xaO l n d e a c b) (κl (a,i64.wrap (c+1),b)) (br (decide ((↑a:Int)>0)) (br (xav a) (br (xaw a b&&xKH (Sh.int .i64) ((b.getD (xae a) .top).cells.getD 1 .top)) (br (((b.getD (xae a) .top).cells.getD 1 .top).toInt==(gC d c 0).toInt) (br (xav a) (br (xaw a b) (κl (a,i64.wrap (c+1),b.set (xae a) (AV.agg (List.take 1 (b.getD (xae a) .top).cells++[AV.int .i64 ((l.getD (i64.wrap (c+1)).toNat .top).cells.getD 0 .top).toInt]++List.drop 2 (b.getD (xae a) .top).cells)))) δ) δ) (xaA l d a c b δ κl)) δ) δ) (xaA l d a c b δ κl))) δ) δ) (br (xaO l n d e a c b) (κl (a,i64.wrap (c+1),b)) (br (decide ((↑a:Int)>0)) (br (xav a) (br (xaw a b&&xKH (Sh.int .i64) ((b.getD (xae a) .top).cells.getD 1 .top)) (br (((b.getD (xae a) .top).cells.getD 1 .top).toInt==(gC d c 0).toInt) (br (xav a) (br (xaw a b) (κl (a,i64.wrap (c+1),b.set (xae a) (AV.agg (List.take 1 (b.getD (xae a) .top).cells++[AV.int .i64 1099511627776]++List.drop 2 (b.getD (xae a) .top).cells)))) δ) δ) (xaB d a c b δ κl)) δ) δ) (xaB d a c b δ κl)))) δ) δ) (κr (a,b))
def xal (l:LA) (n:Int) (c:LA) (d:Int):StT (Nat×Int×LA) (Nat×LA):=fun (b,e,a)=>xaI l n c d b e a none inL inR
def xmm:=xC6.l 62 0 [] [] Tryz.f53 0 lk0 [0,1,5,10,11,12] [5] [(5,2,50)] (q6 (qL 2) qI (xLD 0 0 0) (qL 2) qI qI) (q1 (qB 0 2 50 xLu)) (fun (l,n,b,c,d,e,_) (a,_)=>(xal l n c d,(b,e,a),fun p=>(.leaf (.exit 0) [AV.osl 0 0 0 p.1] [bF 0 2 50 p.2]))) (0,[]) fun (l,n,_,c,d,_,_) _ (b,e,a)=>(((l,n,b,c,d,e,()),(a,())),xaI l n c d b e a none)
def xkU (l:LA) (n:Int):=(Iter (xal l n l (↑l.length:Int)) (0,0,[])).getD (0,[])
def xkS (l:LA) (n:Int):=(xkU l n).fst
def xkT (l:LA) (n:Int):=(xkU l n).snd
def xl6 {T:Type} (l:LA) (n:Int) (δ:T) (κ:LA->T):T:=br ((Iter (xal l n l (↑l.length:Int)) (0,0,[])).isSome) (br (decide (0+xkS l n<=(xkT l n).length)&&true) (κ (List.take (xkS l n) (List.drop 0 (xkT l n)))) δ) δ
def xeA (l:LA) (n:Int):=xl6 l n none some
def xyX:EO:=xC6.f Tryz.func53 62 0 [] [(3,xmm.lp)] (lk1 xmm.ok) (u2 (uL 2) uI) (fun (l,n,_) _=>xl6 l n) (fun _ p=>AV.list 2 p) []
def xiz {T:Type} (b e:LA) (f:Int) (c:Nat) (a:Int) (d:LA) (δ:T) (κl:(Nat×Int×LA)->T) (κr:(Nat×LA)->T):T:=br (decide (a<f)) (br (decide (0<=a)&&decide (a<e.length)) (br (decide (a.toNat<e.length)&&((e.getD a.toNat .top).cells.length==2&&xKO [Sh.int .i64,Sh.int .i64] (e.getD a.toNat .top).cells 0)) (br (xdh ((e.getD a.toNat .top).cells.getD 0 .top).toInt ((e.getD a.toNat .top).cells.getD 1 .top).toInt) (br (c==d.length&&(decide ((c+2)*24<=140737488355328)&&decide (c+2<=4611686018427387904))) (κl (c+2,i64.wrap (a+1),d++[AV.agg [AV.int .i64 ((e.getD a.toNat .top).cells.getD 0 .top).toInt,AV.int .i64 1,AV.int .i64 0],AV.agg [AV.int .i64 ((e.getD a.toNat .top).cells.getD 1 .top).toInt,AV.int .i64 (-1),AV.int .i64 0]])) δ) (κl (c,i64.wrap (a+1),d))) δ) δ) (κr (c,d))
def xbE (b d:LA) (e:Int):StT (Nat×Int×LA) (Nat×LA):=fun (c,f,a)=>xiz b d e c f a none inL inR
def xkR:=xyX.l 49 0 [] [] Tryz.f87 0 lk0 [1,5,10,11,12] [1,5] [(5,3,132)] (q5 (qL 2) (xLD 0 0 0) (qL 2) qI qI) (q1 (qB 0 3 132 xLu)) (fun (b,c,d,e,f,_) (a,_)=>(xbE b d e,(c,f,a),fun p=>(.leaf (.exit 0) [AV.list 2 b,AV.osl 0 0 0 p.1] [bF 0 3 132 p.2]))) (0,[]) fun (b,_,d,e,_,_) _ (c,f,a)=>(((b,c,d,e,f,()),(a,())),xiz b d e c f a none)
def xiA {T:Type} (d:LA) (e:Int) (b:Nat) (a:Int) (c:LA) (δ:T) (κl:(Nat×Int×LA)->T) (κr:(Nat×LA)->T):T:=br (decide (a<e)) (br (decide (0<=a)&&decide (a<d.length)) (br (decide (a.toNat<d.length)&&((d.getD a.toNat .top).cells.length==2&&xKO [Sh.int .i64,Sh.int .i64] (d.getD a.toNat .top).cells 0)) (br (xdh ((d.getD a.toNat .top).cells.getD 0 .top).toInt ((d.getD a.toNat .top).cells.getD 1 .top).toInt) (br (b==c.length&&(decide ((b+2)*24<=140737488355328)&&decide (b+2<=4611686018427387904))) (κl (b+2,i64.wrap (a+1),c++[AV.agg [AV.int .i64 ((d.getD a.toNat .top).cells.getD 0 .top).toInt,AV.int .i64 0,AV.int .i64 1],AV.agg [AV.int .i64 ((d.getD a.toNat .top).cells.getD 1 .top).toInt,AV.int .i64 0,AV.int .i64 (-1)]])) δ) (κl (b,i64.wrap (a+1),c))) δ) δ) (κr (b,c))
def xc7 (c:LA) (d:Int):StT (Nat×Int×LA) (Nat×LA):=fun (b,e,a)=>xiA c d b e a none inL inR
def xpN:=xyX.l 49 0 [] [(3,xkR.lp)] Tryz.f87 1 lk0 [5,28,29,30] [5] [(5,3,132)] (q4 (xLD 0 0 0) (qL 2) qI qI) (q1 (qB 0 3 132 xLu)) (fun (b,c,d,e,_) (a,_)=>(xc7 c d,(b,e,a),fun p=>(.leaf (.exit 2) [AV.osl 0 0 0 p.1] [bF 0 3 132 p.2]))) (0,[]) fun (_,c,d,_,_) _ (b,e,a)=>(((b,c,d,e,()),(a,())),xiA c d b e a none)
def xkm (a b:LA):=(Iter (xbE b a (↑a.length:Int)) (0,0,[])).getD (0,[])
def xkl (a b:LA):=Iter (xc7 b (↑b.length:Int)) ((xkm a b).fst,0,(xkm a b).snd)
def xkk (a b:LA):=(xkl a b).getD (0,[])
def xfK (a b:LA):=(xkk a b).fst
def xfL (a b:LA):=(xkk a b).snd
def xpO {T:Type} (a b:LA) (δ:T) (κ:LA->T):T:=br ((Iter (xbE b a (↑a.length:Int)) (0,0,[])).isSome) (br ((xkl a b).isSome) (br ((xfK a b).beq (xfL a b).length&&(decide (xfK a b<4611686018427387904)&&(xfL a b).all isE)) (br (decide (0+xfK a b<=(srtE (xfL a b)).length)&&true) (κ (List.take (xfK a b) (List.drop 0 (srtE (xfL a b))))) δ) δ) δ) δ
def xf6 (a b:LA):=xpO a b none some
def xHq:EO:=xyX.f Tryz.func87 49 0 [] [(3,xkR.lp),(9,xpN.lp)] (lks (lkC xkR.ok (lkC xpN.ok lkN))) (u2 (uL 2) (uL 2)) (fun (a,b,_) _=>xpO a b) (fun _ p=>AV.list 3 p) []
def xk6 (a b:Bool):Bool:=((a))
def xA3 {T:Type} (a b:Bool) (δ:T) (κ:Bool->T):T:=κ (a)
def xHr:EO:=xHq.fT Tryz.func74 6 0 [] [] lk0 (fun (a,b,_)=>xA3 a b none) (u2 (sEq pBool) (sEq pBool)) (fun (a,b,_)=>xk6 a b) (fun _ p=>(AV.bool p))
def xdQ (a b:Bool):Bool:=(br (a) ((b)) ((false)))
def xs4 {T:Type} (a b:Bool) (δ:T) (κ:Bool->T):T:=br (a) (κ (b)) (κ (false))
def xyY:EO:=xHr.fT Tryz.func57 9 0 [] [] lk0 (fun (a,b,_)=>xs4 a b none) (u2 (sEq pBool) (sEq pBool)) (fun (a,b,_)=>xdQ a b) (fun _ p=>(AV.bool p))
def xi4 (l:LA) (i:Int):=decide (0<=i)&&decide (i<l.length)
def xoL {T:Type} (l:LA) (e:Nat) (d b c i:Int) (a:LA) (δ:T) (κl:(Int×Int×Int×LA)->T) (κr:(Int×Int×Int×LA)->T):T:=br (decide (i<l.length)) (br (xi4 l i) (br (decide (i.toNat<l.length)&&xKH (Sh.int .i64) ((l.getD i.toNat .top).cells.getD 0 .top)) (br (((l.getD i.toNat .top).cells.getD 0 .top).toInt==d) (br (xi4 l i) (br (decide (i.toNat<l.length)&&xKH (Sh.int .i64) ((l.getD i.toNat .top).cells.getD 1 .top)) (br (xi4 l i) (br (decide (i.toNat<l.length)&&xKH (Sh.int .i64) ((l.getD i.toNat .top).cells.getD 2 .top)) (κl (i64.wrap (b+((l.getD i.toNat .top).cells.getD 1 .top).toInt),i64.wrap (c+((l.getD i.toNat .top).cells.getD 2 .top).toInt),i64.wrap (i+1),a)) δ) δ) δ) δ) (κr (b,c,i,a))) δ) δ) (κr (b,c,i,a))
def xhK (l:LA) (b:Nat) (c:Int):StT (Int×Int×Int×LA) (Int×Int×Int×LA):=fun (d,e,i,a)=>xoL l b c d e i a none inL inR
def xgc:=xyY.l 92 0 [] [] Tryz.f56 1 lk0 [2,7,8,9,10,11,12] [2,7,8,9,10,11,12] [(8,2,50)] (q7 (xK5 74 xLs) (qL 3) (xLD 0 0 0) qI qI qI qI) (q1 (qB 0 2 50 xLu)) (fun (_,l,a,d,e,i,c,_) (b,_)=>(xhK l a c,(d,e,i,b),fun p=>(.leaf (.exit 2) [AV.func 74 [],AV.list 3 l,AV.osl 0 0 0 a,AV.int .i64 p.1,AV.int .i64 p.2.1,AV.int .i64 p.2.2.1,AV.int .i64 c] [bF 0 2 50 p.2.2.2]))) (0,0,0,[]) fun (_,l,a,_,_,_,c,_) _ (d,e,i,b)=>((((),l,a,d,e,i,c,()),(b,())),xoL l a c d e i b none)
def xgb (a:Nat):=decide (0<=i64.wrap ((↑a:Int) - 1))&&decide (i64.wrap ((↑a:Int) - 1)<(↑a:Int))
def xml (l:LA) (b:Nat) (d e i c:Int) (a:LA):=(Iter (xhK l b c) (d,e,i,a)).getD (0,0,0,[])
def xaE (a:Nat):Nat:=0+(i64.wrap ((↑a:Int) - 1)).toNat
def xn5 (l:LA) (b:Nat) (d e i c:Int) (a:LA):=(xml l b d e i c a).snd
def xbg (l:LA) (b:Nat) (d e i c:Int) (a:LA):=(xml l b d e i c a).fst
def xbf (l:LA) (b:Nat) (d e i c:Int) (a:LA):=(xn5 l b d e i c a).fst
def xn4 (l:LA) (b:Nat) (d e i c:Int) (a:LA):=(xn5 l b d e i c a).snd
def xad (l:LA) (b:Nat) (d e i c:Int) (a:LA):=(xn4 l b d e i c a).snd
def xn2 (l:LA) (b:Nat) (d e i c:Int) (a:LA):=xk6 (decide (xbg l b d e i c a>0)) (decide (xbf l b d e i c a>0))
def xah (l:LA) (b:Nat) (d e i c:Int) (a:LA):=(xn4 l b d e i c a).fst
def xga (l:LA) (a:Nat) (d e i c:Int) (b:LA):=decide (xaE a<(xad l a d e i c b).length)
def xn3 (l:LA) (b:Nat) (d e i c:Int) (a:LA):=decide (xah l b d e i c a<l.length)
def xoK {T:Type} (l:LA) (a:Nat) (d e i c:Int) (b:LA) (δ:T) (κl:(Nat×Int×Int×Int×Int×LA)->T) (κr:(Nat×LA)->T):T:=br (decide (c<1099511627776)) (br ((Iter (xhK l a c) (d,e,i,b)).isSome) (br (xn3 l a d e i c b) (br (decide (0<=xah l a d e i c b)&&xn3 l a d e i c b) (br (decide ((xah l a d e i c b).toNat<l.length)&&xKH (Sh.int .i64) ((l.getD (xah l a d e i c b).toNat .top).cells.getD 0 .top)) (br (xn2 l a d e i c b) (br (decide ((↑a:Int)>0)) (br (xgb a) (br (xga l a d e i c b&&xKH (Sh.int .i64) (((xad l a d e i c b).getD (xaE a) .top).cells.getD 1 .top)) (br ((((xad l a d e i c b).getD (xaE a) .top).cells.getD 1 .top).toInt==c) (br (xgb a) (br (xga l a d e i c b) (κl (a,xbg l a d e i c b,xbf l a d e i c b,xah l a d e i c b,((l.getD (xah l a d e i c b).toNat .top).cells.getD 0 .top).toInt,(xad l a d e i c b).set (xaE a) (AV.agg (List.take 1 ((xad l a d e i c b).getD (xaE a) .top).cells++[AV.int .i64 ((l.getD (xah l a d e i c b).toNat .top).cells.getD 0 .top).toInt]++List.drop 2 ((xad l a d e i c b).getD (xaE a) .top).cells)))) δ) δ) (br (a==(xad l a d e i c b).length&&(decide ((a+1)*16<=140737488355328)&&decide (a+1<=4611686018427387904))) (κl (a+1,xbg l a d e i c b,xbf l a d e i c b,xah l a d e i c b,((l.getD (xah l a d e i c b).toNat .top).cells.getD 0 .top).toInt,xad l a d e i c b++[AV.agg [AV.int .i64 c,AV.int .i64 ((l.getD (xah l a d e i c b).toNat .top).cells.getD 0 .top).toInt]])) δ)) δ) δ) (br (a==(xad l a d e i c b).length&&(decide ((a+1)*16<=140737488355328)&&decide (a+1<=4611686018427387904))) (κl (a+1,xbg l a d e i c b,xbf l a d e i c b,xah l a d e i c b,((l.getD (xah l a d e i c b).toNat .top).cells.getD 0 .top).toInt,xad l a d e i c b++[AV.agg [AV.int .i64 c,AV.int .i64 ((l.getD (xah l a d e i c b).toNat .top).cells.getD 0 .top).toInt]])) δ)) (κl (a,xbg l a d e i c b,xbf l a d e i c b,xah l a d e i c b,((l.getD (xah l a d e i c b).toNat .top).cells.getD 0 .top).toInt,xad l a d e i c b))) δ) δ) (br (xn2 l a d e i c b) (br (decide ((↑a:Int)>0)) (br (xgb a) (br (xga l a d e i c b&&xKH (Sh.int .i64) (((xad l a d e i c b).getD (xaE a) .top).cells.getD 1 .top)) (br ((((xad l a d e i c b).getD (xaE a) .top).cells.getD 1 .top).toInt==c) (br (xgb a) (br (xga l a d e i c b) (κl (a,xbg l a d e i c b,xbf l a d e i c b,xah l a d e i c b,1099511627776,(xad l a d e i c b).set (xaE a) (AV.agg (List.take 1 ((xad l a d e i c b).getD (xaE a) .top).cells++[AV.int .i64 1099511627776]++List.drop 2 ((xad l a d e i c b).getD (xaE a) .top).cells)))) δ) δ) (br (a==(xad l a d e i c b).length&&(decide ((a+1)*16<=140737488355328)&&decide (a+1<=4611686018427387904))) (κl (a+1,xbg l a d e i c b,xbf l a d e i c b,xah l a d e i c b,1099511627776,xad l a d e i c b++[AV.agg [AV.int .i64 c,AV.int .i64 1099511627776]])) δ)) δ) δ) (br (a==(xad l a d e i c b).length&&(decide ((a+1)*16<=140737488355328)&&decide (a+1<=4611686018427387904))) (κl (a+1,xbg l a d e i c b,xbf l a d e i c b,xah l a d e i c b,1099511627776,xad l a d e i c b++[AV.agg [AV.int .i64 c,AV.int .i64 1099511627776]])) δ)) (κl (a,xbg l a d e i c b,xbf l a d e i c b,xah l a d e i c b,1099511627776,xad l a d e i c b)))) δ) (κr (a,b))
def xl5 (l:LA):StT (Nat×Int×Int×Int×Int×LA) (Nat×LA):=fun (b,d,e,i,c,a)=>xoK l b d e i c a none inL inR
def xn1:=xyY.l 92 0 [] [(6,xgc.lp)] Tryz.f56 0 (lk1 xgc.ok) [2,7,8,9,10,11,12] [8] [(8,2,50)] (q7 (xK5 74 xLs) (qL 3) (xLD 0 0 0) qI qI qI qI) (q1 (qB 0 2 50 xLu)) (fun (_,l,b,d,e,i,c,_) (a,_)=>(xl5 l,(b,d,e,i,c,a),fun p=>(.leaf (.exit 0) [AV.osl 0 0 0 p.1] [bF 0 2 50 p.2]))) (0,[]) fun (_,l,_,_,_,_,_,_) _ (b,d,e,i,c,a)=>((((),l,b,d,e,i,c,()),(a,())),xoK l b d e i c a none)
def xqu (a b:LA):=Iter (xl5 ((xf6 a b).getD [])) (0,0,0,0,0,[])
def xqt (a b:LA):=(xqu a b).getD (0,[])
def xqr (a b:LA):=(xqt a b).snd
def xqs (a b:LA):=(xqt a b).fst
def xri {T:Type} (a b:LA) (δ:T) (κ:LA->T):T:=br ((xf6 a b).isSome) (br ((xqu a b).isSome) (br (decide (0+xqs a b<=(xqr a b).length)&&true) (κ (List.take (xqs a b) (List.drop 0 (xqr a b)))) δ) δ) δ
def xpQ (a b:LA):=xri a b none some
def xHs:EO:=xyY.f Tryz.func56 92 0 [] [(6,xgc.lp),(5,xn1.lp)] (lks (lkC xn1.ok (lkC xgc.ok lkN))) (u3 (uL 2) (uL 2) (sEq (xK5 (74:FuncId) xLs))) (fun (a,b,_,_) _=>xri a b) (fun _ p=>AV.list 2 p) []
def xs5 {T:Type} (l:LA) (δ:T) (κ:LA->T):T:=br ((xpQ l []).isSome) (κ ((xpQ l []).getD [])) δ
def xk5 (l:LA):=xs5 l none some
def xyZ:EO:=xHs.f Tryz.func43 5 0 [] [] lk0 (u1 (uL 2)) (fun (l,_) _=>xs5 l) (fun _ p=>AV.list 2 p) []
def xi3 (l:LA) (i:Int):=decide (0<=i)&&decide (i<l.length)
def xoJ {T:Type} (l:LA) (e:Nat) (d b c i:Int) (a:LA) (δ:T) (κl:(Int×Int×Int×LA)->T) (κr:(Int×Int×Int×LA)->T):T:=br (decide (i<l.length)) (br (xi3 l i) (br (decide (i.toNat<l.length)&&xKH (Sh.int .i64) ((l.getD i.toNat .top).cells.getD 0 .top)) (br (((l.getD i.toNat .top).cells.getD 0 .top).toInt==d) (br (xi3 l i) (br (decide (i.toNat<l.length)&&xKH (Sh.int .i64) ((l.getD i.toNat .top).cells.getD 1 .top)) (br (xi3 l i) (br (decide (i.toNat<l.length)&&xKH (Sh.int .i64) ((l.getD i.toNat .top).cells.getD 2 .top)) (κl (i64.wrap (b+((l.getD i.toNat .top).cells.getD 1 .top).toInt),i64.wrap (c+((l.getD i.toNat .top).cells.getD 2 .top).toInt),i64.wrap (i+1),a)) δ) δ) δ) δ) (κr (b,c,i,a))) δ) δ) (κr (b,c,i,a))
def xhJ (l:LA) (b:Nat) (c:Int):StT (Int×Int×Int×LA) (Int×Int×Int×LA):=fun (d,e,i,a)=>xoJ l b c d e i a none inL inR
def xf9:=xyZ.l 92 0 [] [] Tryz.f56 1 lk0 [2,7,8,9,10,11,12] [2,7,8,9,10,11,12] [(8,2,50)] (q7 (xK5 57 xLs) (qL 3) (xLD 0 0 0) qI qI qI qI) (q1 (qB 0 2 50 xLu)) (fun (_,l,a,d,e,i,c,_) (b,_)=>(xhJ l a c,(d,e,i,b),fun p=>(.leaf (.exit 2) [AV.func 57 [],AV.list 3 l,AV.osl 0 0 0 a,AV.int .i64 p.1,AV.int .i64 p.2.1,AV.int .i64 p.2.2.1,AV.int .i64 c] [bF 0 2 50 p.2.2.2]))) (0,0,0,[]) fun (_,l,a,_,_,_,c,_) _ (d,e,i,b)=>((((),l,a,d,e,i,c,()),(b,())),xoJ l a c d e i b none)
def xf8 (a:Nat):=decide (0<=i64.wrap ((↑a:Int) - 1))&&decide (i64.wrap ((↑a:Int) - 1)<(↑a:Int))
def xmk (l:LA) (b:Nat) (d e i c:Int) (a:LA):=(Iter (xhJ l b c) (d,e,i,a)).getD (0,0,0,[])
def xaD (a:Nat):Nat:=0+(i64.wrap ((↑a:Int) - 1)).toNat
def xbe (l:LA) (b:Nat) (d e i c:Int) (a:LA):=(xmk l b d e i c a).fst
def xn0 (l:LA) (b:Nat) (d e i c:Int) (a:LA):=(xmk l b d e i c a).snd
def xnx (l:LA) (b:Nat) (d e i c:Int) (a:LA):=(xn0 l b d e i c a).snd
def xbd (l:LA) (b:Nat) (d e i c:Int) (a:LA):=(xn0 l b d e i c a).fst
def xac (l:LA) (b:Nat) (d e i c:Int) (a:LA):=(xnx l b d e i c a).snd
def xnY (l:LA) (b:Nat) (d e i c:Int) (a:LA):=xdQ (decide (xbe l b d e i c a>0)) (decide (xbd l b d e i c a>0))
def xag (l:LA) (b:Nat) (d e i c:Int) (a:LA):=(xnx l b d e i c a).fst
def xf7 (l:LA) (a:Nat) (d e i c:Int) (b:LA):=decide (xaD a<(xac l a d e i c b).length)
def xnZ (l:LA) (b:Nat) (d e i c:Int) (a:LA):=decide (xag l b d e i c a<l.length)
def xoI {T:Type} (l:LA) (a:Nat) (d e i c:Int) (b:LA) (δ:T) (κl:(Nat×Int×Int×Int×Int×LA)->T) (κr:(Nat×LA)->T):T:=br (decide (c<1099511627776)) (br ((Iter (xhJ l a c) (d,e,i,b)).isSome) (br (xnZ l a d e i c b) (br (decide (0<=xag l a d e i c b)&&xnZ l a d e i c b) (br (decide ((xag l a d e i c b).toNat<l.length)&&xKH (Sh.int .i64) ((l.getD (xag l a d e i c b).toNat .top).cells.getD 0 .top)) (br (xnY l a d e i c b) (br (decide ((↑a:Int)>0)) (br (xf8 a) (br (xf7 l a d e i c b&&xKH (Sh.int .i64) (((xac l a d e i c b).getD (xaD a) .top).cells.getD 1 .top)) (br ((((xac l a d e i c b).getD (xaD a) .top).cells.getD 1 .top).toInt==c) (br (xf8 a) (br (xf7 l a d e i c b) (κl (a,xbe l a d e i c b,xbd l a d e i c b,xag l a d e i c b,((l.getD (xag l a d e i c b).toNat .top).cells.getD 0 .top).toInt,(xac l a d e i c b).set (xaD a) (AV.agg (List.take 1 ((xac l a d e i c b).getD (xaD a) .top).cells++[AV.int .i64 ((l.getD (xag l a d e i c b).toNat .top).cells.getD 0 .top).toInt]++List.drop 2 ((xac l a d e i c b).getD (xaD a) .top).cells)))) δ) δ) (br (a==(xac l a d e i c b).length&&(decide ((a+1)*16<=140737488355328)&&decide (a+1<=4611686018427387904))) (κl (a+1,xbe l a d e i c b,xbd l a d e i c b,xag l a d e i c b,((l.getD (xag l a d e i c b).toNat .top).cells.getD 0 .top).toInt,xac l a d e i c b++[AV.agg [AV.int .i64 c,AV.int .i64 ((l.getD (xag l a d e i c b).toNat .top).cells.getD 0 .top).toInt]])) δ)) δ) δ) (br (a==(xac l a d e i c b).length&&(decide ((a+1)*16<=140737488355328)&&decide (a+1<=4611686018427387904))) (κl (a+1,xbe l a d e i c b,xbd l a d e i c b,xag l a d e i c b,((l.getD (xag l a d e i c b).toNat .top).cells.getD 0 .top).toInt,xac l a d e i c b++[AV.agg [AV.int .i64 c,AV.int .i64 ((l.getD (xag l a d e i c b).toNat .top).cells.getD 0 .top).toInt]])) δ)) (κl (a,xbe l a d e i c b,xbd l a d e i c b,xag l a d e i c b,((l.getD (xag l a d e i c b).toNat .top).cells.getD 0 .top).toInt,xac l a d e i c b))) δ) δ) (br (xnY l a d e i c b) (br (decide ((↑a:Int)>0)) (br (xf8 a) (br (xf7 l a d e i c b&&xKH (Sh.int .i64) (((xac l a d e i c b).getD (xaD a) .top).cells.getD 1 .top)) (br ((((xac l a d e i c b).getD (xaD a) .top).cells.getD 1 .top).toInt==c) (br (xf8 a) (br (xf7 l a d e i c b) (κl (a,xbe l a d e i c b,xbd l a d e i c b,xag l a d e i c b,1099511627776,(xac l a d e i c b).set (xaD a) (AV.agg (List.take 1 ((xac l a d e i c b).getD (xaD a) .top).cells++[AV.int .i64 1099511627776]++List.drop 2 ((xac l a d e i c b).getD (xaD a) .top).cells)))) δ) δ) (br (a==(xac l a d e i c b).length&&(decide ((a+1)*16<=140737488355328)&&decide (a+1<=4611686018427387904))) (κl (a+1,xbe l a d e i c b,xbd l a d e i c b,xag l a d e i c b,1099511627776,xac l a d e i c b++[AV.agg [AV.int .i64 c,AV.int .i64 1099511627776]])) δ)) δ) δ) (br (a==(xac l a d e i c b).length&&(decide ((a+1)*16<=140737488355328)&&decide (a+1<=4611686018427387904))) (κl (a+1,xbe l a d e i c b,xbd l a d e i c b,xag l a d e i c b,1099511627776,xac l a d e i c b++[AV.agg [AV.int .i64 c,AV.int .i64 1099511627776]])) δ)) (κl (a,xbe l a d e i c b,xbd l a d e i c b,xag l a d e i c b,1099511627776,xac l a d e i c b)))) δ) (κr (a,b))
def xl4 (l:LA):StT (Nat×Int×Int×Int×Int×LA) (Nat×LA):=fun (b,d,e,i,c,a)=>xoI l b d e i c a none inL inR
def xnX:=xyZ.l 92 0 [] [(6,xf9.lp)] Tryz.f56 0 (lk1 xf9.ok) [2,7,8,9,10,11,12] [8] [(8,2,50)] (q7 (xK5 57 xLs) (qL 3) (xLD 0 0 0) qI qI qI qI) (q1 (qB 0 2 50 xLu)) (fun (_,l,b,d,e,i,c,_) (a,_)=>(xl4 l,(b,d,e,i,c,a),fun p=>(.leaf (.exit 0) [AV.osl 0 0 0 p.1] [bF 0 2 50 p.2]))) (0,[]) fun (_,l,_,_,_,_,_,_) _ (b,d,e,i,c,a)=>((((),l,b,d,e,i,c,()),(a,())),xoI l b d e i c a none)
def xqq (a b:LA):=Iter (xl4 ((xf6 a b).getD [])) (0,0,0,0,0,[])
def xqp (a b:LA):=(xqq a b).getD (0,[])
def xqn (a b:LA):=(xqp a b).snd
def xqo (a b:LA):=(xqp a b).fst
def xrh {T:Type} (a b:LA) (δ:T) (κ:LA->T):T:=br ((xf6 a b).isSome) (br ((xqq a b).isSome) (br (decide (0+xqo a b<=(xqn a b).length)&&true) (κ (List.take (xqo a b) (List.drop 0 (xqn a b)))) δ) δ) δ
def xpP (a b:LA):=xrh a b none some
def xHt:EO:=xyZ.f Tryz.func56 92 0 [] [(6,xf9.lp),(5,xnX.lp)] (lks (lkC xnX.ok (lkC xf9.ok lkN))) (u3 (uL 2) (uL 2) (sEq (xK5 (57:FuncId) xLs))) (fun (a,b,_,_) _=>xrh a b) (fun _ p=>AV.list 2 p) []
def xkQ {T:Type} (a b:LA) (δ:T) (κ:LA->T):T:=br ((xpP a b).isSome) (κ ((xpP a b).getD [])) δ
def xgY (a b:LA):=xkQ a b none some
def xyx:EO:=xHt.f Tryz.func32 8 0 [] [] lk0 (u2 (uL 2) (uL 2)) (fun (a,b,_) _=>xkQ a b) (fun _ p=>AV.list 2 p) []
def xeh {T:Type} (h:LA) (i j:Int) (e:LA) (f:Int) (d:Nat) (c:Int) (a b g:LA) (δ:T) (κl:(Nat×Int×LA×LA×LA)->T) (κr:(Nat×LA)->T):T:=br (decide (c<f)) (br (ixI e c) (br (ixT e c 2 [Sh.int .i64,Sh.int .i64] 0) (br (decide (b.length*32<=140737488355328)&&decide (b.length<=4611686018427387904)) (br (decide (0+b.length<=b.length)&&true&&true&&true&&true) (br (rmB d a 1 40) (κl (d+1,i64.wrap (c+1),a++[AV.agg [AV.list 3 (List.take b.length (List.drop 0 b)),AV.int .i64 (gC e c 0).toInt,AV.int .i64 (gC e c 1).toInt]],b,g)) δ) δ) δ) δ) δ) (κr (d,a))
def xbv (c:LA) (d e:Int) (f:LA) (g:Int):StT (Nat×Int×LA×LA×LA) (Nat×LA):=fun (b,h,a,i,j)=>xeh c d e f g b h a i j none inL inR
def xdV:=xyx.l 38 0 [58] [] Tryz.f55 1 lk0 [1,5,7,11,12,13,20,21,22] [1,5,11,12,13] [(5,3,58)] (q9 (xK5 43 xLs) (xLD 0 0 0) (xLE 1 0 0 0) (qL 2) qI qI (qL 2) qI qI) (q2 (qB 0 3 58 xLu) (qB 0 2 128 (q1 (xLF (q2 (qL 3) (qL 2)))))) (fun (_,b,_,c,d,e,f,g,h,_) (a,((i,j,_),_),_)=>(xbv c d e f g,(b,h,a,i,j),fun p=>(.leaf (.exit 2) [AV.func 43 [],AV.osl 0 0 0 p.1,AV.list 2 c,AV.int .i64 d,AV.int .i64 e] [bF 0 3 58 p.2]))) (0,[]) fun (_,_,_,c,d,e,f,g,_,_) _ (b,h,a,i,j)=>((((),b,(),c,d,e,f,g,h,()),(a,((i,j,()),()),())),xeh c d e f g b h a i j none)
def xgj (a:LA) (e:Int) (d:Nat) (b:Int) (c:LA):=Iter (xbv a e b ((xk5 (gC a b 1).toList).getD []) (↑((xk5 (gC a b 1).toList).getD []).length:Int)) (d,0,c,(gC a b 0).toList,(gC a b 1).toList)
def xgi (c:LA) (d:Int) (b:Nat) (e:Int) (a:LA):=(xgj c d b e a).getD (0,[])
def xeg {T:Type} (d:LA) (e:Int) (c:Nat) (b:Int) (a:LA) (δ:T) (κl:(Nat×Int×LA)->T) (κr:(Nat×LA)->T):T:=br (decide (b<e)) (br (ixI d b) (br (ixT d b 2 [Sh.list 3,Sh.list 2] 0) (br ((xk5 (gC d b 1).toList).isSome) (br ((xgj d e c b a).isSome) (κl ((xgi d e c b a).fst,i64.wrap (b+1),(xgi d e c b a).snd)) δ) δ) δ) δ) (κr (c,a))
def xb3 (c:LA) (d:Int):StT (Nat×Int×LA) (Nat×LA):=fun (b,e,a)=>xeg c d b e a none inL inR
def xjx:=xyx.l 38 0 [58] [(6,xdV.lp)] Tryz.f55 0 (lk1 xdV.ok) [1,5,11,12,13] [5] [(5,3,58)] (q5 (xK5 43 xLs) (xLD 0 0 0) (qL 2) qI qI) (q1 (qB 0 3 58 xLu)) (fun (_,b,c,d,e,_) (a,_)=>(xb3 c d,(b,e,a),fun p=>(.leaf (.exit 0) [AV.osl 0 0 0 p.1] [bF 0 3 58 p.2]))) (0,[]) fun (_,_,c,d,_,_) _ (b,e,a)=>((((),b,c,d,e,()),(a,())),xeg c d b e a none)
def xic (l:LA):=Iter (xb3 ((xhV l).getD []) (↑((xhV l).getD []).length:Int)) (0,0,[])
def xib (l:LA):=(xic l).getD (0,[])
def xh9 (l:LA):=(xib l).fst
def xia (l:LA):=(xib l).snd
def xiF {T:Type} (l:LA) (δ:T) (κ:LA->T):T:=br ((xhV l).isSome) (br ((xic l).isSome) (br (decide (0+xh9 l<=(xia l).length)&&true) (κ (List.take (xh9 l) (List.drop 0 (xia l)))) δ) δ) δ
def xkr (l:LA):=xiF l none some
def xHu:EO:=xyx.f Tryz.func55 38 0 [58] [(6,xdV.lp),(3,xjx.lp)] (lks (lkC xjx.ok (lkC xdV.ok lkN))) (u2 (uL 3) (sEq (xK5 (43:FuncId) xLs))) (fun (l,_,_) _=>xiF l) (fun _ p=>AV.list 3 p) []
def xmC {T:Type} (l:LA) (δ:T) (κ:LA->T):T:=br ((xkr l).isSome) (κ ((xkr l).getD [])) δ
def xiE (l:LA):=xmC l none some
def xC7:EO:=xHu.f Tryz.func31 5 0 [] [] lk0 (u1 (uL 3)) (fun (l,_) _=>xmC l) (fun _ p=>AV.list 3 p) []
def xfZ (b a:Bool):Int:=(br (b) (((-1))) (br (a) ((1)) ((0))))
def xz5 {T:Type} (b a:Bool) (δ:T) (κ:Int->T):T:=br (b) (κ ((-1))) (br (a) (κ (1)) (κ (0)))
def xHv:EO:=xC7.fT Tryz.func73 7 0 [] [] lk0 (fun (b,a,_)=>xz5 b a none) (u2 (sEq pBool) (sEq pBool)) (fun (b,a,_)=>xfZ b a) (fun _ p=>(AV.int .i64 p))
def xfH (a b:Int) (c:List UInt8) (d e:Int) (f:List UInt8):Int:=(br (a != d) ((xfZ (decide (a<d)) (decide (a>d)))) (br (b != e) ((xfZ (decide (b<e)) (decide (b>e)))) ((xfZ (Op.bytesLess c f) !(Op.bytesLess c f || c==f)))))
def xvj {T:Type} (a b:Int) (c:List UInt8) (d e:Int) (f:List UInt8) (δ:T) (κ:Int->T):T:=br (a != d) (κ (xfZ (decide (a<d)) (decide (a>d)))) (br (b != e) (κ (xfZ (decide (b<e)) (decide (b>e)))) (κ (xfZ (Op.bytesLess c f) !(Op.bytesLess c f || c==f))))
def xC8:EO:=xHv.fT Tryz.func42 48 0 [] [] lk0 (fun ((a,b,c,_),(d,e,f,_),_)=>xvj a b c d e f none) (u2 (xLI (u3 uI uI (sEq pStr))) (xLI (u3 uI uI (sEq pStr)))) (fun ((a,b,c,_),(d,e,f,_),_)=>xfH a b c d e f) (fun _ p=>(AV.int .i64 p))
def xcL (a b:LA) (i:Int):=xfH (gC a i 0).toInt (gC a i 1).toInt (gC a i 2).toStr (gC b i 0).toInt (gC b i 1).toInt (gC b i 2).toStr
def xc1 {T:Type} (a b:LA) (i:Int) (δ:T) (κl:(Int)->T) (κr:(Bool×(Int)×(Unit))->T):T:=br (decide (i<a.length)) (br (decide (i<b.length)) (br (ixI a i) (br (ixT a i 3 [Sh.int .i64,Sh.int .i64,Sh.str] 0) (br (ixI b i) (br (ixT b i 3 [Sh.int .i64,Sh.int .i64,Sh.str] 0) (br (xcL a b i != 0) (κr (true,(xcL a b i),())) (κl (i64.wrap (i+1)))) δ) δ) δ) δ) (κr (false,0,()))) (κr (false,0,()))
def xaM (a b:LA):StT (Int) (Bool×(Int)×(Unit)):=fun (i)=>xc1 a b i none inL inR
def xmg:=xC8.l 41 0 [] [] Tryz.f17 0 lk0 [0,1,5] [0,1,4] [] (q3 (qL 3) (qL 3) qI) xLs (fun (a,b,i,_) _=>(xaM a b,(i),fun p=>(.node p.1 (.leaf .ret [AV.list 3 a,AV.list 3 b,AV.int .i64 p.2.1] []) (.leaf (.exit 0) [AV.list 3 a,AV.list 3 b,.top] [])))) (false,0,()) fun (a,b,_,_) _ (i)=>(((a,b,i,()),()),xc1 a b i none)
def xlM {T:Type} (a b:LA) (δ:T) (κ:Int->T):T:=br ((Iter (xaM a b) 0).isSome) (br (((Iter (xaM a b) 0).getD (false,0,())).fst) (κ (((Iter (xaM a b) 0).getD (false,0,())).snd.fst)) (br (decide ((↑a.length:Int)<(↑b.length:Int))) (κ ((-1))) (br (decide ((↑a.length:Int)>(↑b.length:Int))) (κ (1)) (κ (0))))) δ
def xcg (a b:LA):=xlM a b none some
def xHw:EO:=xC8.f Tryz.func17 41 0 [] [(2,xmg.lp)] (lk1 xmg.ok) (u2 (uL 3) (uL 3)) (fun (a,b,_) _=>xlM a b) (fun _ p=>AV.int .i64 p) 0
def xgl (a b:Int):Bool:=(br (decide (a>=0)) (br (decide (a<b)) ((decide (b<=1099511627776))) ((false))) ((false)))
def xyC {T:Type} (a b:Int) (δ:T) (κ:Bool->T):T:=br (decide (a>=0)) (br (decide (a<b)) (κ (decide (b<=1099511627776))) (κ (false))) (κ (false))
def xHy:EO:=xHw.fT Tryz.func46 18 0 [] [] lk0 (fun ((a,b,_),_)=>xyC a b none) (u1 (xLI (u2 uI uI))) (fun ((a,b,_),_)=>xgl a b) (fun _ p=>(AV.bool p))
def xgG (a b t:Int):Bool:=(br (xgl a b) (br (decide (a<=t)) ((decide (t<b))) ((false))) ((false)))
def xut {T:Type} (a b t:Int) (δ:T) (κ:Bool->T):T:=br (xgl a b) (br (decide (a<=t)) (κ (decide (t<b))) (κ (false))) (κ (false))
def xC9:EO:=xHy.fT Tryz.func24 19 0 [] [] lk0 (fun ((a,b,_),t,_)=>xut a b t none) (u2 (xLI (u2 uI uI)) uI) (fun ((a,b,_),t,_)=>xgG a b t) (fun _ p=>(AV.bool p))
def xip {T:Type} (a b:LA) (i:Int) (δ:T) (κl:(Int)->T) (κr:(Bool×(Bool)×(Unit))->T):T:=br (decide (i<a.length)) (br (ixI a i) (br (ixT a i 2 [Sh.int .i64,Sh.int .i64] 0) (br (ixI b i) (br (ixT b i 2 [Sh.int .i64,Sh.int .i64] 0) (br (!((gC a i 0).toInt==(gC b i 0).toInt&&((gC a i 1).toInt==(gC b i 1).toInt&&true))) (κr (true,(false),())) (κl (i64.wrap (i+1)))) δ) δ) δ) δ) (κr (false,false,()))
def xbD (a b:LA):StT (Int) (Bool×(Bool)×(Unit)):=fun (i)=>xip a b i none inL inR
def xpo:=xC9.l 26 0 [] [] Tryz.f18 0 lk0 [0,1,5] [4] [] (q3 (qL 2) (qL 2) qI) xLs (fun (a,b,i,_) _=>(xbD a b,(i),fun p=>(.node p.1 (.leaf .ret [AV.bool p.2.1] []) (.leaf (.exit 0) [.top] [])))) (false,false,()) fun (a,b,_,_) _ (i)=>(((a,b,i,()),()),xip a b i none)
def xpp {T:Type} (a b:LA) (δ:T) (κ:Bool->T):T:=br ((↑a.length:Int) != (↑b.length:Int)) (κ (false)) (br ((Iter (xbD a b) 0).isSome) (br (((Iter (xbD a b) 0).getD (false,false,())).fst) (κ (((Iter (xbD a b) 0).getD (false,false,())).snd.fst)) (κ (true))) δ)
def xlJ (a b:LA):=xpp a b none some
def xHz:EO:=xC9.f Tryz.func18 26 0 [] [(4,xpo.lp)] (lk1 xpo.ok) (u2 (uL 2) (uL 2)) (fun (a,b,_) _=>xpp a b) (fun _ p=>AV.bool p) false
def xCG:Int×Int×List UInt8:=((0,0,[]))
def xz4 {T:Type} (δ:T) (κ:Int×Int×List UInt8->T):T:=κ (0,0,[])
def xGo:EO:=xHz.fT Tryz.func101 2 0 [] [] lk0 (fun _=>xz4 none) xLt (fun _=>xCG) (fun _ p=>(AV.agg [AV.int .i64 p.1,AV.int .i64 p.2.1,AV.str p.2.2]))
def xvk {T:Type} (a:LA) (i:Int) (δ:T) (κ:Int×Int×List UInt8->T):T:=br (decide (i<0)) (κ (0,0,[])) (br (decide (i>=a.length)) (κ (0,0,[])) (br (ixI a i) (br (ixT a i 3 [Sh.int .i64,Sh.int .i64,Sh.str] 0) (κ ((gC a i 0).toInt,(gC a i 1).toInt,(gC a i 2).toStr)) δ) δ))
def xkE (a:LA) (i:Int):=xvk a i none some
def xBf:EO:=xGo.f Tryz.func75 18 0 [] [] lk0 (u2 (uL 3) uI) (fun (a,i,_) _=>xvk a i) (fun _ p=>AV.agg [AV.int .i64 p.1,AV.int .i64 p.2.1,AV.str p.2.2]) (0,0,[])
def xiY (o:LA) (i:Int):=ixI o i
def xnS (a o:LA) (i:Int):=(xkE a (gC o i 0).toInt).getD (0,0,[])
def xnT (b o:LA) (i:Int):=(xkE b (gC o i 0).toInt).getD (0,0,[])
def xnQ (b o:LA) (i:Int):=(xnT b o i).snd
def xnR (a o:LA) (i:Int):=(xnS a o i).snd
def xnP (a b o:LA) (i:Int):=xfH (xnS a o i).fst (xnR a o i).fst (xnR a o i).snd (xnT b o i).fst (xnQ b o i).fst (xnQ b o i).snd
def xjL {T:Type} (a b o:LA) (i:Int) (δ:T) (κl:(Int)->T) (κr:(Bool×(Bool)×(Unit))->T):T:=br (decide (i<o.length)) (br (xiY o i) (br (ixS o i (Sh.int .i64) 0) (br ((xkE a (gC o i 0).toInt).isSome) (br (xiY o i) (br (ixS o i (Sh.int .i64) 0) (br ((xkE b (gC o i 0).toInt).isSome) (br (xnP a b o i != 0) (br (xiY o i) (br (decide (i.toNat<o.length)&&xKH Sh.bool (gC o i 1)) (κr (true,(!decide (xnP a b o i<0)==(gC o i 1).toBool),())) δ) δ) (κl (i64.wrap (i+1)))) δ) δ) δ) δ) δ) δ) (κr (false,false,()))
def xcm (a b o:LA):StT (Int) (Bool×(Bool)×(Unit)):=fun (i)=>xjL a b o i none inL inR
def xnO:=xBf.l 44 0 [] [] Tryz.f125 0 lk0 [0,1,2,7] [0,1,6] [] (q4 (qL 3) (qL 3) (qL 2) qI) xLs (fun (a,b,o,i,_) _=>(xcm a b o,(i),fun p=>(.node p.1 (.leaf .ret [AV.list 3 a,AV.list 3 b,AV.bool p.2.1] []) (.leaf (.exit 0) [AV.list 3 a,AV.list 3 b,.top] [])))) (false,false,()) fun (a,b,o,_,_) _ (i)=>(((a,b,o,i,()),()),xjL a b o i none)
def xmL {T:Type} (a b o:LA) (δ:T) (κ:Bool->T):T:=br ((Iter (xcm a b o) 0).isSome) (br (((Iter (xcm a b o) 0).getD (false,false,())).fst) (κ (((Iter (xcm a b o) 0).getD (false,false,())).snd.fst)) (br ((xcg a b).isSome) (κ (decide ((xcg a b).getD 0<0))) δ)) δ
def xlN (a b o:LA):=xmL a b o none some
def xBg:EO:=xBf.f Tryz.func125 44 0 [] [(2,xnO.lp)] (lk1 xnO.ok) (u3 (uL 3) (uL 3) (uL 2)) (fun (a,b,o,_) _=>xmL a b o) (fun _ p=>AV.bool p) false
def xb8 (a:LA) (i:Int):=decide (i.toNat<a.length)&&xKH (Sh.list 3) (gC a i 0)
def xb9 (b:LA) (k:Int):=decide (k.toNat<b.length)&&xKH (Sh.list 3) (gC b k 0)
def xca (a:LA) (i:Int):=ixI a i
def xcb (b:LA) (k:Int):=ixI b k
def xbU {T:Type} (b:LA) (c:Nat) (i k:Int) (a:LA) (δ:T) (κl:(Nat×Int×Int×LA)->T):T:=br (xcb b k) (br (xb9 b k) (br (rmB c a 1 24) (κl (c+1,i,i64.wrap (k+1),a++[AV.list 3 (gC b k 0).toList])) δ) δ) δ
def xbV {T:Type} (a:LA) (c:Nat) (i k:Int) (b:LA) (δ:T) (κl:(Nat×Int×Int×LA)->T):T:=br (xca a i) (br (xb8 a i) (br (rmB c b 1 24) (κl (c+1,i64.wrap (i+1),k,b++[AV.list 3 (gC a i 0).toList])) δ) δ) δ
def xbT {T:Type} (a b o:LA) (d:Nat) (i k:Int) (c:LA) (δ:T) (κl:(Nat×Int×Int×LA)->T):T:=br (i==(↑a.length:Int)) (xbU b d i k c δ κl) (br (decide (k<b.length)) (br (xcb b k) (br (xb9 b k) (br (xca a i) (br (xb8 a i) (br ((xlN (gC b k 0).toList (gC a i 0).toList o).isSome) (br ((xlN (gC b k 0).toList (gC a i 0).toList o).getD false) (xbU b d i k c δ κl) (xbV a d i k c δ κl)) δ) δ) δ) δ) δ) (xbV a d i k c δ κl))
def xcA {T:Type} (a b o:LA) (d:Nat) (i k:Int) (c:LA) (δ:T) (κl:(Nat×Int×Int×LA)->T) (κr:(Nat×LA)->T):T:=br (decide (i<a.length)) (xbT a b o d i k c δ κl) (br (decide (k<b.length)) (xbT a b o d i k c δ κl) (κr (d,c)))
def xaV (a b o:LA):StT (Nat×Int×Int×LA) (Nat×LA):=fun (d,i,k,c)=>xcA a b o d i k c none inL inR
def xnU:=xBg.l 62 0 [] [] Tryz.f100 0 lk0 [0,1,2,7,8,9] [7] [(7,1,34)] (q6 (qL 1) (qL 1) (qL 2) (xLD 0 0 0) qI qI) (q1 (qB 0 1 34 xLu)) (fun (a,b,o,d,i,k,_) (c,_)=>(xaV a b o,(d,i,k,c),fun p=>(.leaf (.exit 0) [AV.osl 0 0 0 p.1] [bF 0 1 34 p.2]))) (0,[]) fun (a,b,o,_,_,_,_) _ (d,i,k,c)=>(((a,b,o,d,i,k,()),(c,())),xcA a b o d i k c none)
def xlR (a b o:LA):=Iter (xaV a b o) (0,0,0,[])
def xlQ (a b o:LA):=(xlR a b o).getD (0,[])
def xlO (a b o:LA):=(xlQ a b o).fst
def xlP (a b o:LA):=(xlQ a b o).snd
def xmM {T:Type} (a b o:LA) (δ:T) (κ:LA->T):T:=br ((xlR a b o).isSome) (br (decide (0+xlO a b o<=(xlP a b o).length)&&true) (κ (List.take (xlO a b o) (List.drop 0 (xlP a b o)))) δ) δ
def xpy (a b o:LA):=xmM a b o none some
def xtd:EO:=xBg.f Tryz.func100 62 0 [] [(3,xnU.lp)] (lk1 xnU.ok) (u3 (uL 1) (uL 1) (uL 2)) (fun (a,b,o,_) _=>xmM a b o) (fun _ p=>AV.list 1 p) []
def xkG (R:LA->LA->Option (LA)):LA->Option (Bool×AV):=ocOf (xLr (xLH 1 xLu) (xLr (xLH 2 xLu) xLt)) fun (l,(o,_))=>((R l o).isSome,AV.list 1 ((R l o).getD []))
def xgw (R:LA->LA->Option (LA)):Prop:=OcOk P0 xLp 72 (xkG R)
def xe8 (R:LA->LA->Option (LA)):Env:=(xtd.E.with 72 (xkG R)).fn 34 0 (lsOf []) (xK4 [])
theorem xtp (R:LA->LA->Option (LA)) (a:xgw R):xKJ P0 (xLp.at 0) (xe8 R):=(xtd.ok.with a).fn
theorem xsn (R:LA->LA->Option (LA)) (a:xgw R):LoOk P0 (xLp.at (xe8 R).pin) (xe8 R) (Tryz.f72.body.getD .skip):=xgk (by kernel_rfl)
def xgJ (l:LA):=decide (0<=i64.wrap ((↑l.length:Int).tdiv 2))&&decide (i64.wrap ((↑l.length:Int).tdiv 2)<=(↑l.length:Int))
def xdJ (l:LA):Nat:=0+((l.getD 0 .top).cells.getD 0 .top).toList.length
def xgK (R:LA->LA->Option (LA)) (l o:LA):Option (LA):=R (List.take (l.length - (i64.wrap ((↑l.length:Int).tdiv 2)).toNat) (List.drop (i64.wrap ((↑l.length:Int).tdiv 2)).toNat l)) o
def xgI (R:LA->LA->Option (LA)) (l o:LA):Option (LA):=xpy ((R (List.take ((i64.wrap ((↑l.length:Int).tdiv 2)).toNat - 0) (List.drop 0 l)) o).getD []) ((xgK R l o).getD []) o
def xdt {T:Type} (R:LA->LA->Option (LA)) (l o:LA) (δ:T) (κ:LA->T):T:=br ((↑l.length:Int)==0) (κ ([])) (br ((↑l.length:Int)==1) (br (decide (0<(↑l.length:Int))) (br (decide (0<l.length)&&xKH (Sh.list 3) ((l.getD 0 .top).cells.getD 0 .top)) (br (decide (xdJ l*32<=140737488355328)&&decide (xdJ l<=4611686018427387904)) (br (decide (0+xdJ l<=([]++((l.getD 0 .top).cells.getD 0 .top).toList).length)&&true&&true&&true) (κ ([AV.list 3 (List.take (xdJ l) (List.drop 0 ([]++((l.getD 0 .top).cells.getD 0 .top).toList)))])) δ) δ) δ) δ) (br (xgJ l&&true) (br ((R (List.take ((i64.wrap ((↑l.length:Int).tdiv 2)).toNat - 0) (List.drop 0 l)) o).isSome) (br (xgJ l) (br ((xgK R l o).isSome) (br ((xgI R l o).isSome) (κ ((xgI R l o).getD [])) δ) δ) δ) δ) δ))
def xbz (R:LA->LA->Option (LA)) (l o:LA):=xdt R l o none some
theorem xyG (R:LA->LA->Option (LA)) (l o:LA):Enc (fun (p:LA)=>((AV.list 1 p):AV)) (xbz R l o) (XF P0 (xe8 R) Tryz.f72 (Tryz.f72.body.getD .skip) [AV.list 1 l,AV.list 2 o]):=by
 have h:XF P0 (xe8 R) Tryz.f72 (Tryz.f72.body.getD .skip) [AV.list 1 l,AV.list 2 o]=xdt R l o none (fun (p:LA)=>some ((AV.list 1 p):AV)):=by kernel_rfl
 rw [h];unfold xbz xdt;repeat' (first|refine Enc.br ?_ ?_|exact Enc.none|exact Enc.some rfl)
def xyF (R:LA->LA->Option (LA)):LA->Option (Bool×AV):=ocOf (xLr (xLH 1 xLu) (xLr (xLH 2 xLu) xLt)) fun (l,(o,_))=>((xbz R l o).isSome,(AV.list 1 ((xbz R l o).getD [])))
theorem xyE (R:LA->LA->Option (LA)) (a:xgw R):OcOk P0 xLp 72 (xyF R):=xfF fun e g f=>by
 obtain ⟨l,⟨o,_⟩⟩:=e;obtain ⟨b,c⟩:=Prod.mk.inj f;refine xhl (p:=(xe8 R).pin) (xjf xKS (xKT P0 _) rfl (xtp R a) Tryz.func72 rfl (by kernel_rfl) (xsn R a) ((xyG R _ _ _ (xaL (d:=[]) b)).trans ?_))
 exact congrArg some c
def xbu:Nat->LA->LA->Option (LA)
 | 0=>fun _ _=>none
 | fu_+1=>fun l o=>xbz (xbu fu_) l o
theorem xpt:∀ n,xgw (xbu n)
 | 0=>xfF fun _ _ h=>absurd (Prod.mk.inj h).1 Bool.false_ne_true
 | fu_+1=>fun a r h=>xyE (xbu fu_) (xpt fu_) a r h
def xBh:Env:=xtd.E.with 72 (xkG (xbu 1000))
theorem xBV:xKJ P0 xLp xBh:=xtd.ok.with (xpt _)
def xBU:EO:=EO.mk xBh xBV
def xpw {T:Type} (l:LA) (δ:T) (κ:LA->T):T:=br ((xbu 1000 l []).isSome) (κ ((xbu 1000 l []).getD [])) δ
def xrK (l:LA):=xpw l none some
def xq4:EO:=xBU.f Tryz.func41 5 0 [] [] lk0 (u1 (uL 1)) (fun (l,_) _=>xpw l) (fun _ p=>AV.list 1 p) []
def xfG:Env:=xq4.E.fn 51 1 (lsOf []) (xK4 [])
theorem xuu:xKJ P0 (xLp.at 1) xfG:=xq4.ok.fn
theorem xsW:LoOk P0 (xLp.at xfG.pin) xfG (Tryz.f93.body.getD .skip):=xgk (by kernel_rfl)
def xcR (k:Nat) (a:LA):=(List.take ((i64.wrap ((↑k:Int) - 1)).toNat - 0) (List.drop 0 a)).length
def xkd (k:Nat) (a:LA):=decide (0+(i64.wrap ((↑k:Int) - 1)).toNat<a.length)
def xhY (k:Nat) (a:LA):=((a.getD (0+(i64.wrap ((↑k:Int) - 1)).toNat) .top).cells.getD 1 .top).toInt
def xke (k:Nat):=decide (0<=i64.wrap ((↑k:Int) - 1))
def xhX (k:Nat):=xke k&&decide (i64.wrap ((↑k:Int) - 1)<(↑k:Int))
def xkc (k:Nat) (a:LA):=xkd k a&&xKH (Sh.int .i64) ((a.getD (0+(i64.wrap ((↑k:Int) - 1)).toNat) .top).cells.getD 1 .top)
def xgH {T:Type} (k:Nat) (a b:Int) (c:LA) (δ:T) (κ:Bool×(Nat×LA×LA)×(Nat×LA)->T):T:=br (rmB k c 1 16) (κ (false,(0,[],[]),(k+1,c++[AV.agg [AV.int .i64 a,AV.int .i64 b]]))) δ
def xiX {T:Type} (k:Nat) (b c:Int) (a:LA) (δ:T) (κ:Bool×(Nat×LA×LA)×(Nat×LA)->T):T:=br (decide ((↑k:Int)>0)) (br (xhX k) (br (xkc k a) (br (decide (xhY k a>=b)) (br (xke k&&decide (i64.wrap ((↑k:Int) - 1)<=(↑k:Int))&&true) (br (decide (0+((i64.wrap ((↑k:Int) - 1)).toNat - 0)<=a.length)&&(decide (xcR k a*16<=140737488355328)&&decide (xcR k a<=4611686018427387904))) (br (xhX k) (br (xkd k a&&xKH (Sh.int .i64) ((a.getD (0+(i64.wrap ((↑k:Int) - 1)).toNat) .top).cells.getD 0 .top)) (br (xhX k) (br (xkc k a) (br (xcR k a==xcR k a&&(decide ((xcR k a+1)*16<=140737488355328)&&decide (xcR k a+1<=4611686018427387904))) (κ (true,(xcR k a+1,a,List.take ((i64.wrap ((↑k:Int) - 1)).toNat - 0) (List.drop 0 a)++[AV.agg [AV.int .i64 ((a.getD (0+(i64.wrap ((↑k:Int) - 1)).toNat) .top).cells.getD 0 .top).toInt,AV.int .i64 (if c>xhY k a then c else xhY k a)]]),(0,[]))) δ) δ) δ) δ) δ) δ) δ) (xgH k b c a δ κ)) δ) δ) (xgH k b c a δ κ)
def xbM (k:Nat) (a b:Int) (c:LA):=xiX k a b c none some
theorem xz3 (k:Nat) (a b:Int) (xs:LA):Enc (fun (p:Bool×(Nat×LA×LA)×(Nat×LA))=>((br p.1 ((AV.osl 1 0 0 p.2.1.1,([⟨0,2,50,p.2.1.2.1,false,true⟩,⟨0,2,50,p.2.1.2.2,false,true⟩]:List Box))) ((AV.osl 0 1 0 p.2.2.1,([⟨1,2,50,p.2.2.2,false,true⟩]:List Box)))):(AV×List Box))) (xbM k a b xs) (XFM P0 xfG Tryz.f93 (Tryz.f93.body.getD .skip) [AV.osl (0:Id) 0 0 k,AV.agg [AV.int .i64 a,AV.int .i64 b]] [{ ver:=0,sz:=2,ty:=(50:TypeId),xs:=xs,frz:=false,pm:=true }]):=by
 have h:XFM P0 xfG Tryz.f93 (Tryz.f93.body.getD .skip) [AV.osl (0:Id) 0 0 k,AV.agg [AV.int .i64 a,AV.int .i64 b]] [{ ver:=0,sz:=2,ty:=(50:TypeId),xs:=xs,frz:=false,pm:=true }]=xiX k a b xs none (fun (p:Bool×(Nat×LA×LA)×(Nat×LA))=>some ((br p.1 ((AV.osl 1 0 0 p.2.1.1,([⟨0,2,50,p.2.1.2.1,false,true⟩,⟨0,2,50,p.2.1.2.2,false,true⟩]:List Box))) ((AV.osl 0 1 0 p.2.2.1,([⟨1,2,50,p.2.2.2,false,true⟩]:List Box)))):(AV×List Box))):=by kernel_rfl
 rw [h];unfold xbM xiX xgH;repeat' (first|refine Enc.br ?_ ?_|exact Enc.none|exact Enc.some rfl)
def xz2:LA->List Box->Option (Bool×AV×List Box):=omOf (xLr (sEq (xLD 0 0 0)) (xLr (xLI (xLr (sEq (pInt .i64)) (xLr (sEq (pInt .i64)) xLt))) xLt)) (xLq (xLG 0 2 (50:TypeId) false true xLu) xLs) fun (k,((a,(b,_)),_)) (c,_)=>((xbM k a b c).isSome,(AV.osl 1 0 0 (br ((xbM k a b c).getD (false,(0,[],[]),(0,[]))).1 ((xbM k a b c).getD (false,(0,[],[]),(0,[]))).2.1.1 ((xbM k a b c).getD (false,(0,[],[]),(0,[]))).2.2.1),
 ([⟨2,2,50,[],false,true⟩,⟨0,2,50,br ((xbM k a b c).getD (false,(0,[],[]),(0,[]))).1 ((xbM k a b c).getD (false,(0,[],[]),(0,[]))).2.1.2.2 ((xbM k a b c).getD (false,(0,[],[]),(0,[]))).2.2.2,false,true⟩]:List Box)))
theorem xz1:OmOk P0 xLp 93 (xz2):=xra fun e f j h g=>by
 obtain ⟨k,⟨⟨c,⟨i,_⟩⟩,_⟩⟩:=e;obtain ⟨l,_⟩:=f;obtain ⟨b,a⟩:=Prod.mk.inj g;have hx:=xz3 _ _ _ _ _ (xaL (d:=(false,(0,[],[]),(0,[]))) b);revert hx a;generalize ((xbM _ _ _ _).getD (false,(0,[],[]),(0,[])))=p;intro a hx;obtain ⟨rfl,rfl⟩:=Prod.mk.inj a;obtain ⟨t,⟨m,n,o⟩,q,r⟩:=p;have hg:GoodM P0 xLp 93 _ _ _ _:=xnK (p:=xfG.pin) (xnJ xKS (xKT P0 _) rfl xuu rfl Tryz.func93 rfl (by kernel_rfl) xsW hx)
 cases t
 . exact GoodM.move0 rfl (by decide) hg
 . exact GoodM.drop0 rfl (by decide) hg
def xBT:EO:=xq4.wM xz1
def xeB {T:Type} (l:LA) (n:Int) (b:Nat) (i:Int) (a:LA) (δ:T) (κl:(Nat×Int×LA)->T) (κr:(Nat×Int×LA)->T):T:=br (decide (i<l.length)) (br (ixI l i) (br (ixS l i (Sh.int .i64) 0) (br (decide ((gC l i 0).toInt<n)) (br (ixI l i) (br (ixS l i (Sh.int .i64) 0) (br (rmB b a 1 8) (κl (b+1,i64.wrap (i+1),a++[AV.int .i64 (gC l i 0).toInt])) δ) δ) δ) (κr (b,i,a))) δ) δ) (κr (b,i,a))
def xbK (l:LA) (n:Int):StT (Nat×Int×LA) (Nat×Int×LA):=fun (b,i,a)=>xeB l n b i a none inL inR
def xiW:=xBT.l 58 0 [] [] Tryz.f47 0 lk0 [0,1,5,6] [0,1,5,6] [(5,1,3)] (q4 (qL 1) qI (xLD 0 0 0) qI) (q1 (qB 0 1 3 xLu)) (fun (l,n,b,i,_) (a,_)=>(xbK l n,(b,i,a),fun p=>(.leaf (.exit 0) [AV.list 1 l,AV.int .i64 n,AV.osl 0 0 0 p.1,AV.int .i64 p.2.1] [bF 0 1 3 p.2.2]))) (0,0,[]) fun (l,n,_,_,_) _ (b,i,a)=>(((l,n,b,i,()),(a,())),xeB l n b i a none)
def xgu {T:Type} (l:LA) (b:Nat) (i:Int) (a:LA) (δ:T) (κl:(Nat×Int×LA)->T) (κr:(Nat×LA)->T):T:=br (decide (i<l.length)) (br (ixI l i) (br (ixS l i (Sh.int .i64) 0) (br (rmB b a 1 8) (κl (b+1,i64.wrap (i+1),a++[AV.int .i64 (gC l i 0).toInt])) δ) δ) δ) (κr (b,a))
def xbL (l:LA):StT (Nat×Int×LA) (Nat×LA):=fun (b,i,a)=>xgu l b i a none inL inR
def xnM:=xBT.l 58 0 [] [(3,xiW.lp)] Tryz.f47 1 lk0 [0,5,6] [5] [(5,1,3)] (q3 (qL 1) (xLD 0 0 0) qI) (q1 (qB 0 1 3 xLu)) (fun (l,b,i,_) (a,_)=>(xbL l,(b,i,a),fun p=>(.leaf (.exit 2) [AV.osl 0 0 0 p.1] [bF 0 1 3 p.2]))) (0,[]) fun (l,_,_,_) _ (b,i,a)=>(((l,b,i,()),(a,())),xgu l b i a none)
def xfg (l:LA) (n:Int):=(Iter (xbK l n) (0,0,[])).getD (0,0,[])
def xdI (l:LA) (n:Int):=(xfg l n).fst
def xff (l:LA) (n:Int):=(xfg l n).snd
def xa9 (l:LA) (n:Int):=(xff l n).fst
def xdG (l:LA) (n:Int):=xdI l n+1
def xdH (l:LA) (n:Int):=(xff l n).snd
def xfU (l:LA) (n:Int):=Iter (xbL l) (xdG l n,xa9 l n,xdH l n++[AV.int .i64 n])
def xfY (l:LA) (n:Int):=Iter (xbL l) (xdI l n,xa9 l n,xdH l n)
def xhn (l:LA) (n:Int):=xdI l n==(xdH l n).length
def xfT (l:LA) (n:Int):=(xfU l n).getD (0,[])
def xiq (l:LA) (n:Int):=(xfU l n).isSome
def xfX (l:LA) (n:Int):=(xfY l n).getD (0,[])
def xfR (l:LA) (n:Int):=(xfT l n).fst
def xfS (l:LA) (n:Int):=(xfT l n).snd
def xfV (l:LA) (n:Int):=(xfX l n).snd
def xfW (l:LA) (n:Int):=(xfX l n).fst
def xkC {T:Type} (l:LA) (n:Int) (δ:T) (κ:LA->T):T:=br (xhn l n&&(decide (xdG l n*8<=140737488355328)&&decide (xdG l n<=4611686018427387904))) (br (xiq l n) (br (decide (0+xfR l n<=(xfS l n).length)&&true) (κ (List.take (xfR l n) (List.drop 0 (xfS l n)))) δ) δ) δ
def xmJ {T:Type} (l:LA) (n:Int) (δ:T) (κ:LA->T):T:=br ((Iter (xbK l n) (0,0,[])).isSome) (br (xa9 l n==(↑l.length:Int)) (xkC l n δ κ) (br (decide (0<=xa9 l n)&&decide (xa9 l n<l.length)) (br (decide ((xa9 l n).toNat<l.length)&&xKH (Sh.int .i64) ((l.getD (xa9 l n).toNat .top).cells.getD 0 .top)) (br (decide (((l.getD (xa9 l n).toNat .top).cells.getD 0 .top).toInt>n)) (xkC l n δ κ) (br ((xfY l n).isSome) (br (decide (0+xfW l n<=(xfV l n).length)&&true) (κ (List.take (xfW l n) (List.drop 0 (xfV l n)))) δ) δ)) δ) δ)) δ
def xfe (l:LA) (n:Int):=xmJ l n none some
def xDa:EO:=xBT.f Tryz.func47 58 0 [] [(3,xiW.lp),(8,xnM.lp)] (lks (lkC xiW.ok (lkC xnM.ok lkN))) (u2 (uL 1) uI) (fun (l,n,_) _=>xmJ l n) (fun _ p=>AV.list 1 p) []
def xhZ {T:Type} (k:Nat) (a n:Int) (b:LA) (δ:T) (κ:Bool×(Nat×LA)×(Nat×LA)->T):T:=br (rmB k b 1 16) (κ (false,(0,[]),(k+1,b++[AV.agg [AV.int .i64 a,AV.int .i64 n]]))) δ
def xnp {T:Type} (k:Nat) (a n:Int) (b:LA) (δ:T) (κ:Bool×(Nat×LA)×(Nat×LA)->T):T:=br (decide ((↑k:Int)>0)) (br (decide (0<=i64.wrap ((↑k:Int) - 1))&&decide (i64.wrap ((↑k:Int) - 1)<(↑k:Int))) (br (decide (0+(i64.wrap ((↑k:Int) - 1)).toNat<b.length)&&xKH (Sh.int .i64) ((b.getD (0+(i64.wrap ((↑k:Int) - 1)).toNat) .top).cells.getD 1 .top)) (br (((b.getD (0+(i64.wrap ((↑k:Int) - 1)).toNat) .top).cells.getD 1 .top).toInt==n) (κ (true,(k,b),(0,[]))) (xhZ k a n b δ κ)) δ) δ) (xhZ k a n b δ κ)
def xqh (k:Nat) (a n:Int) (b:LA):=xnp k a n b none some
def xjr {T:Type} (l:LA) (i:Int) (δ:T) (κl:(Int)->T) (κr:(Bool×(Bool)×(Unit))->T):T:=br (decide (i<l.length)) (br (ixI l i) (br (ixS l i (Sh.list 3) 0) (br (decide ((↑(gC l i 0).toList.length:Int)>60)) (κr (true,(false),())) (κl (i64.wrap (i+1)))) δ) δ) (κr (false,false,()))
def xcC (l:LA):StT (Int) (Bool×(Bool)×(Unit)):=fun (i)=>xjr l i none inL inR
def xql:=xDa.l 23 0 [] [] Tryz.f27 0 lk0 [0,5] [4] [] (q2 (qL 3) qI) xLs (fun (l,i,_) _=>(xcC l,(i),fun p=>(.node p.1 (.leaf .ret [AV.bool p.2.1] []) (.leaf (.exit 0) [.top] [])))) (false,false,()) fun (l,_,_) _ (i)=>(((l,i,()),()),xjr l i none)
def xqP {T:Type} (l:LA) (a:Int) (δ:T) (κ:Bool->T):T:=br (decide ((↑l.length:Int)>a)) (κ (false)) (br ((Iter (xcC l) 0).isSome) (br (((Iter (xcC l) 0).getD (false,false,())).fst) (κ (((Iter (xcC l) 0).getD (false,false,())).snd.fst)) (κ (true))) δ)
def xqk (l:LA) (a:Int):=xqP l a none some
def xHA:EO:=xDa.f Tryz.func27 23 0 [] [(4,xql.lp)] (lk1 xql.ok) (u2 (uL 3) uI) (fun (l,a,_) _=>xqP l a) (fun _ p=>AV.bool p) false
def xC0:Int×Int×List UInt8:=((0,0,[]))
def xAl {T:Type} (δ:T) (κ:Int×Int×List UInt8->T):T:=κ (0,0,[])
def xHg:EO:=xyU.fT Tryz.func119 2 0 [] [] lk0 (fun _=>xAl none) xLt (fun _=>xC0) (fun _ p=>(AV.agg [AV.int .i64 p.1,AV.int .i64 p.2.1,AV.str p.2.2]))
def xrZ {T:Type} (a:LA) (i:Int) (δ:T) (κ:Int×Int×List UInt8->T):T:=br (decide (i<0)) (κ (0,0,[])) (br (decide (i>=a.length)) (κ (0,0,[])) (br (ixI a i) (br (ixT a i 3 [Sh.int .i64,Sh.int .i64,Sh.str] 0) (κ ((gC a i 0).toInt,(gC a i 1).toInt,(gC a i 2).toStr)) δ) δ))
def xrY (a:LA) (i:Int):=xrZ a i none some
def xC5:EO:=xHg.f Tryz.func90 18 0 [] [] lk0 (u2 (uL 3) uI) (fun (a,i,_) _=>xrZ a i) (fun _ p=>AV.agg [AV.int .i64 p.1,AV.int .i64 p.2.1,AV.str p.2.2]) (0,0,[])
def xhO (a b:LA) (c:Int):=(xrY a (gC b c 0).toInt).getD (0,0,[])
def xhN (a b:LA) (c:Int):=(xhO a b c).snd
def xiB {T:Type} (e c:LA) (f:Int) (d:Nat) (a:Int) (b:LA) (δ:T) (κl:(Nat×Int×LA)->T) (κr:(Nat×LA)->T):T:=br (decide (a<f)) (br (ixI c a) (br (ixS c a (Sh.int .i64) 0) (br ((xrY e (gC c a 0).toInt).isSome) (br (rmB d b 1 32) (κl (d+1,i64.wrap (a+1),b++[AV.agg [AV.int .i64 (xhO e c a).fst,AV.int .i64 (xhN e c a).fst,AV.str (xhN e c a).snd]])) δ) δ) δ) δ) (κr (d,b))
def xc8 (c d:LA) (e:Int):StT (Nat×Int×LA) (Nat×LA):=fun (b,f,a)=>xiB c d e b f a none inL inR
def xpX:=xC5.l 25 0 [] [] Tryz.f62 0 lk0 [0,5,11,12,13] [5] [(5,3,64)] (q5 (qL 3) (xLD 0 0 0) (qL 1) qI qI) (q1 (qB 0 3 64 xLu)) (fun (c,b,d,e,f,_) (a,_)=>(xc8 c d e,(b,f,a),fun p=>(.leaf (.exit 0) [AV.osl 0 0 0 p.1] [bF 0 3 64 p.2]))) (0,[]) fun (c,_,d,e,_,_) _ (b,f,a)=>(((c,b,d,e,f,()),(a,())),xiB c d e b f a none)
def xoB (a l:LA):=(Iter (xc8 a l (↑l.length:Int)) (0,0,[])).getD (0,[])
def xoz (a l:LA):=(xoB a l).fst
def xoA (a l:LA):=(xoB a l).snd
def xpY {T:Type} (a l:LA) (δ:T) (κ:LA->T):T:=br (decide (32*(↑l.length:Int)<=281474976710656)&&decide ((↑l.length:Int)<=4611686018427387904)) (br ((Iter (xc8 a l (↑l.length:Int)) (0,0,[])).isSome) (br (decide (0+xoz a l<=(xoA a l).length)&&true) (κ (List.take (xoz a l) (List.drop 0 (xoA a l)))) δ) δ) δ
def xo1 (a l:LA):=xpY a l none some
def xHh:EO:=xC5.f Tryz.func62 25 0 [] [(3,xpX.lp)] (lk1 xpX.ok) (u2 (uL 3) (uL 1)) (fun (a,l,_) _=>xpY a l) (fun _ p=>AV.list 3 p) []
def xpL {T:Type} (f:List UInt8) (c a d e b:LA) (δ:T) (κ:LA->T):T:=br ((xo1 b a).isSome) (κ ((xo1 b a).getD [])) δ
def xdl (e:List UInt8) (b a c d f:LA):=xpL e b a c d f none some
def xAd:LA->Option (Bool×AV):=fnO (u2 (xLI (u5 (sEq pStr) (uL 3) (uL 1) (uL 2) (uL 7))) (uL 3)) (fun ((e,b,a,c,d,_),f,_) _=>xpL e b a c d f) (fun _ p=>AV.list 3 p) []
theorem xAc:OcOk P0 xLp 34 xAd:=fnC xHh.ok Tryz.func34 9 0 [] [] lk0
def xeR {T:Type} (a:List UInt8) (i:Int) (δ:T) (κl:(Int)->T) (κr:(Bool×(Bool)×(Unit))->T):T:=br (decide (i<a.length)) (br (decide (0<=i)&&decide (i<a.length)) (br (decide ((↑(a.getD i.toNat (0:UInt8)).toNat:Int)<32)) (κr (true,(false),())) (br (decide (0<=i)&&decide (i<a.length)) (br (decide ((↑(a.getD i.toNat (0:UInt8)).toNat:Int)>126)) (κr (true,(false),())) (κl (i64.wrap (i+1)))) δ)) δ) (κr (false,false,()))
def xa5 (a:List UInt8):StT (Int) (Bool×(Bool)×(Unit)):=fun (i)=>xeR a i none inL inR
def xk2:=xq4.l 20 0 [] [] Tryz.f128 0 lk0 [0,3] [2] [] (q2 pStr qI) xLs (fun (a,i,_) _=>(xa5 a,(i),fun p=>(.node p.1 (.leaf .ret [AV.bool p.2.1] []) (.leaf (.exit 0) [.top] [])))) (false,false,()) fun (a,_,_) _ (i)=>(((a,i,()),()),xeR a i none)
def xjK {T:Type} (a:List UInt8) (δ:T) (κ:Bool->T):T:=br ((Iter (xa5 a) 0).isSome) (br (((Iter (xa5 a) 0).getD (false,false,())).fst) (κ (((Iter (xa5 a) 0).getD (false,false,())).snd.fst)) (κ (true))) δ
def xir (a:List UInt8):=xjK a none some
def xDh:EO:=xq4.f Tryz.func128 20 0 [] [(2,xk2.lp)] (lk1 xk2.ok) (u1 (sEq pStr)) (fun (a,_) _=>xjK a) (fun _ p=>AV.bool p) false
def xoe {T:Type} (c a:Int) (b:List UInt8) (δ:T) (κ:Bool->T):T:=br (c==0) (br (a==0) (κ (b==[])) (κ (false))) (br (c==1) (br (b==[]) (br (decide (a>=(-1125899906842624))) (κ (decide (a<=1125899906842624))) (κ (false))) (κ (false))) (br (c==2) (br (a==0) (br (decide ((↑b.length:Int)<=200)) (br ((xir b).isSome) (κ ((xir b).getD false)) δ) (κ (false))) (κ (false))) (br (c==3) (br (b==[]) (br (a==0) (κ (true)) (κ (a==1))) (κ (false))) (κ (false)))))
def xj5 (a b:Int) (c:List UInt8):=xoe a b c none some
def xyD:LA->Option (Bool×AV):=fnO (u1 (xLI (u3 uI uI (sEq pStr)))) (fun ((a,b,c,_),_) _=>xoe a b c) (fun _ p=>AV.bool p) false
theorem xr8:OcOk P0 xLp 108 xyD:=fnC xDh.ok Tryz.func108 61 0 [] [] lk0
def xHF:EO:=xDh.w xr8
def xh5 (a:Int):Int×Int:=(br (a==1) ((0,0)) (br (a==2) ((0,0)) (br (a==4) ((1,1)) (br (a==18) ((1,1)) (br (a==20) ((1,1)) (br (a==21) ((1,1)) (br (a==5) ((2,1099511627776)) (br (a==6) ((2,1099511627776)) (br (a==7) ((2,2)) (br (a==8) ((2,2)) (br (a==9) ((2,2)) (br (a==10) ((2,2)) (br (a==11) ((2,2)) (br (a==12) ((2,2)) (br (a==13) ((2,2)) (br (a==14) ((2,2)) (br (a==15) ((2,2)) (br (a==16) ((2,2)) (br (a==17) ((2,2)) (br (a==19) ((2,2)) (br (a==22) ((3,3)) (br (a==23) ((1,1099511627776)) (br (a==24) ((4,4)) (((-1),0)))))))))))))))))))))))))
def xyH {T:Type} (a:Int) (δ:T) (κ:Int×Int->T):T:=br (a==1) (κ (0,0)) (br (a==2) (κ (0,0)) (br (a==4) (κ (1,1)) (br (a==18) (κ (1,1)) (br (a==20) (κ (1,1)) (br (a==21) (κ (1,1)) (br (a==5) (κ (2,1099511627776)) (br (a==6) (κ (2,1099511627776)) (br (a==7) (κ (2,2)) (br (a==8) (κ (2,2)) (br (a==9) (κ (2,2)) (br (a==10) (κ (2,2)) (br (a==11) (κ (2,2)) (br (a==12) (κ (2,2)) (br (a==13) (κ (2,2)) (br (a==14) (κ (2,2)) (br (a==15) (κ (2,2)) (br (a==16) (κ (2,2)) (br (a==17) (κ (2,2)) (br (a==19) (κ (2,2)) (br (a==22) (κ (3,3)) (br (a==23) (κ (1,1099511627776)) (br (a==24) (κ (4,4)) (κ ((-1),0))))))))))))))))))))))))
def xHG:EO:=xHF.fT Tryz.func149 35 0 [7000000] [] lk0 (fun (a,_)=>xyH a none) (u1 uI) (fun (a,_)=>xh5 a) (fun _ p=>(AV.tuple [AV.int .i64 p.1,AV.int .i64 p.2]))
def xmN {T:Type} (a f b c:Int) (d g:List UInt8) (e:LA) (δ:T) (κ:Bool->T):T:=br (decide ((xh5 a).fst<0)) (κ (false)) (br (decide ((↑e.length:Int)<(xh5 a).fst)) (κ (false)) (br (decide ((↑e.length:Int)>(xh5 a).snd)) (κ (false)) (br (!g==[]) (κ (false)) (br (a==1) (br (f==0) (br ((xj5 b c d).isSome) (κ ((xj5 b c d).getD false)) δ) (κ (false))) (br (a==2) (κ (b==0&&(c==0&&(d==[]&&true)))) (br (a==24) (br (b==0&&(c==0&&(d==[]&&true))) (br (decide (f>=0)) (κ (decide (f<13))) (κ (false))) (κ (false))) (br (f==0) (κ (b==0&&(c==0&&(d==[]&&true)))) (κ (false)))))))))
def xlS (b g c d:Int) (e f:List UInt8) (a:LA):=xmN b g c d e f a none some
def xDi:EO:=xHG.f Tryz.func150 75 0 [] [] lk0 (u1 (xLI (u7 uI uI uI uI (sEq pStr) (sEq pStr) (uL 7)))) (fun ((b,h,c,d,e,g,a,_),_) _=>xmN b h c d e g a) (fun _ p=>AV.bool p) false
def xjq {T:Type} (l:LA) (a i:Int) (δ:T) (κl:(Int)->T) (κr:(Bool×(Bool)×(Unit))->T):T:=br (decide (i<l.length)) (br (ixI l i) (br (ixS l i (Sh.int .i64) 0) (br ((gC l i 0).toInt != a) (br (ixI l i) (br (ixS l i (Sh.int .i64) 0) (br ((gC l i 0).toInt != 0) (κr (true,(false),())) (κl (i64.wrap (i+1)))) δ) δ) (κl (i64.wrap (i+1)))) δ) δ) (κr (false,false,()))
def xcB (l:LA) (a:Int):StT (Int) (Bool×(Bool)×(Unit)):=fun (i)=>xjq l a i none inL inR
def xqi:=xDi.l 25 0 [] [] Tryz.f175 0 lk0 [0,1,5] [4] [] (q3 (qL 1) qI qI) xLs (fun (l,a,i,_) _=>(xcB l a,(i),fun p=>(.node p.1 (.leaf .ret [AV.bool p.2.1] []) (.leaf (.exit 0) [.top] [])))) (false,false,()) fun (l,a,_,_) _ (i)=>(((l,a,i,()),()),xjq l a i none)
def xqK {T:Type} (l:LA) (a:Int) (δ:T) (κ:Bool->T):T:=br ((Iter (xcB l a) 0).isSome) (br (((Iter (xcB l a) 0).getD (false,false,())).fst) (κ (((Iter (xcB l a) 0).getD (false,false,())).snd.fst)) (κ (true))) δ
def xcF (l:LA) (a:Int):=xqK l a none some
def xDj:EO:=xDi.f Tryz.func175 25 0 [] [(2,xqi.lp)] (lk1 xqi.ok) (u2 (uL 1) uI) (fun (l,a,_) _=>xqK l a) (fun _ p=>AV.bool p) false
def xhr (l:LA) (i:Int):=ixI l i
def xhs (l:LA) (i:Int):=decide (i.toNat<l.length)&&xKH (Sh.int .i64) (gC l i 0)
def xgy {T:Type} (l:LA) (i:Int) (δ:T) (κl:(Int×Int)->T):T:=br (xhr l i) (br (xhs l i) (κl ((gC l i 0).toInt,i64.wrap (i+1))) δ) δ
def xiu {T:Type} (l:LA) (k i:Int) (δ:T) (κl:(Int×Int)->T) (κr:(Bool×(Int×Bool×Int)×(Int))->T):T:=br (decide (i<l.length)) (br (xhr l i) (br (xhs l i) (br ((gC l i 0).toInt==0) (κl (k,i64.wrap (i+1))) (br (k != 0) (br (xhr l i) (br (xhs l i) (br (k != (gC l i 0).toInt) (κr (true,(0,false,k),0)) (xgy l i δ κl)) δ) δ) (xgy l i δ κl))) δ) δ) (κr (false,(0,false,0),(k)))
def xc3 (l:LA):StT (Int×Int) (Bool×(Int×Bool×Int)×(Int)):=fun (k,i)=>xiu l k i none inL inR
def xpz:=xDj.l 32 0 [] [] Tryz.f176 0 lk0 [0,4,5] [2,3,4] [] (q3 (qL 1) qI qI) xLs (fun (l,k,i,_) _=>(xc3 l,(k,i),fun p=>(.node p.1 (.leaf .ret [AV.int .i64 p.2.1.1,AV.bool p.2.1.2.1,AV.int .i64 p.2.1.2.2] []) (.leaf (.exit 0) [.top,.top,AV.int .i64 p.2.2] [])))) (false,(0,false,0),0) fun (l,_,_,_) _ (k,i)=>(((l,k,i,()),()),xiu l k i none)
def xol (l:LA):=(Iter (xc3 l) (0,0)).getD (false,(0,false,0),0)
def xok (l:LA):=(xol l).snd
def xoj (l:LA):=(xok l).fst
def xpA {T:Type} (l:LA) (δ:T) (κ:Int×Bool->T):T:=br ((Iter (xc3 l) (0,0)).isSome) (br ((xol l).fst) (κ ((xoj l).fst,(xoj l).snd.fst)) (κ ((xok l).snd,true))) δ
def xdk (l:LA):=xpA l none some
def xHH:EO:=xDj.f Tryz.func176 32 0 [] [(3,xpz.lp)] (lk1 xpz.ok) (u1 (uL 1)) (fun (l,_) _=>xpA l) (fun _ p=>AV.tuple [AV.int .i64 p.1,AV.bool p.2]) (0,false)
def xcU {T:Type} (l:LA) (δ:T) (κ:Int×Bool->T):T:=br ((xdk l).isSome) (κ (3,((xdk l).getD (0,false)).snd)) δ
def xcV {T:Type} (l:LA) (δ:T) (κ:Int×Bool->T):T:=br ((xcF l 1).isSome) (κ (1,(xcF l 1).getD false)) δ
def xht {T:Type} (l:LA) (δ:T) (κ:Int×Bool->T):T:=br ((xcF l 3).isSome) (κ (3,(xcF l 3).getD false)) δ
def xmZ {T:Type} (a c d f:Int) (g h:List UInt8) (e l b:LA) (δ:T) (κ:Int×Bool->T):T:=br (a==1) (κ (d,true)) (br (a==2) (br (ixI b c) (br (ixS b c (Sh.int .i64) 0) (κ ((gC b c 0).toInt,true)) δ) δ) (br (a==4) (xht l δ κ) (br (a==5) (xht l δ κ) (br (a==6) (xht l δ κ) (br (a==7) (xcU l δ κ) (br (a==8) (xcU l δ κ) (br (a==9) (xcU l δ κ) (br (a==10) (xcU l δ κ) (br (a==11) (xcU l δ κ) (br (a==12) (xcU l δ κ) (br (a==13) (xcV l δ κ) (br (a==14) (xcV l δ κ) (br (a==15) (xcV l δ κ) (br (a==16) (xcV l δ κ) (br (a==17) (xcV l δ κ) (br (a==18) (xcV l δ κ) (br (a==19) (br ((xcF l 2).isSome) (κ (2,(xcF l 2).getD false)) δ) (br (a==20) (br ((xcF l 2).isSome) (κ (1,(xcF l 2).getD false)) δ) (br (a==21) (κ (3,true)) (br (a==22) (br (decide (1<=(↑l.length:Int))) (br ((xdk (List.take (l.length - 1) (List.drop 1 l))).isSome) (br (((xdk (List.take (l.length - 1) (List.drop 1 l))).getD (0,false)).snd) (br (decide (1<=(↑l.length:Int))&&true) (br ((xcF (List.take 1 (List.drop 0 l)) 3).isSome) (κ (((xdk (List.take (l.length - 1) (List.drop 1 l))).getD (0,false)).fst,(xcF (List.take 1 (List.drop 0 l)) 3).getD false)) δ) δ) (κ (((xdk (List.take (l.length - 1) (List.drop 1 l))).getD (0,false)).fst,false))) δ) δ) (br (a==23) (br ((xdk l).isSome) (κ (((xdk l).getD (0,false)).fst,((xdk l).getD (0,false)).snd)) δ) (br ((xcF l 1).isSome) (κ (3,(xcF l 1).getD false)) δ))))))))))))))))))))))
def xgL (c h d e:Int) (f g:List UInt8) (a l b:LA):=xmZ c h d e f g a l b none some
def xq5:EO:=xHH.f Tryz.func151 87 0 [7000000] [] lk0 (u3 (xLI (u7 uI uI uI uI (sEq pStr) (sEq pStr) (uL 7))) (uL 1) (uL 1)) (fun ((c,i,d,e,g,h,a,_),l,b,_) _=>xmZ c i d e g h a l b) (fun _ p=>AV.tuple [AV.int .i64 p.1,AV.bool p.2]) (0,false)
def xdN (R:Int->Int->Int->Int->List UInt8->List UInt8->LA->Option (Int)):LA->Option (Bool×AV):=ocOf (xLr (xLI (xLr (sEq (pInt .i64)) (xLr (sEq (pInt .i64)) (xLr (sEq (pInt .i64)) (xLr (sEq (pInt .i64)) (xLr (sEq pStr) (xLr (sEq pStr) (xLr (xLH 7 xLu) xLt)))))))) xLt) fun ((b,(i,(c,(d,(e,(f,(a,_))))))),_)=>((R b i c d e f a).isSome,AV.int .i64 ((R b i c d e f a).getD 0))
theorem xsp (k:Go.FuncId) (R:Nat->Int->Int->Int->Int->List UInt8->List UInt8->LA->Option (Int)) (g:∀ n,OcOk P0 xLp k (xdN (R n))):OcOk P0 xLp k (xdN (fun b i c d e f a=>limN fun n=>R n b i c d e f a)):=xzR g fun v h=>by
 obtain ⟨⟨b,⟨i,⟨c,⟨d,⟨e,⟨f,⟨a,_⟩⟩⟩⟩⟩⟩⟩,_⟩:=v;obtain ⟨n,j⟩:=xwM (R:=fun n=>R n b i c d e f a) h
 exact ⟨n,congrArg (fun o=>(Option.isSome o,(AV.int .i64 (Option.getD o 0):AV))) j⟩
def xdp (R:Int->Int->Int->Int->List UInt8->List UInt8->LA->Option (Int)):Prop:=OcOk P0 xLp 126 (xdN R)
def xfa (R:Int->Int->Int->Int->List UInt8->List UInt8->LA->Option (Int)):Env:=(xq5.E.with 126 (xdN R)).fn 22 0 (lsOf []) (xK4 [])
abbrev xjR (R:Int->Int->Int->Int->List UInt8->List UInt8->LA->Option (Int)):Prop:=xdp R
theorem xts (R:Int->Int->Int->Int->List UInt8->List UInt8->LA->Option (Int)) (a:xjR R):xKJ P0 (xLp.at 0) (xfa R):=(xq5.ok.with a).fn
theorem xqM (R:Int->Int->Int->Int->List UInt8->List UInt8->LA->Option (Int)) (a:xjR R):LoOk P0 (xLp.at (xfa R).pin) (xfa R) (xKN Tryz.f126 0):=xgk (by kernel_rfl)
def xjU (R:Int->Int->Int->Int->List UInt8->List UInt8->LA->Option Int) (i:Int) (a:LA):=R (gC a i 0).toInt (gC a i 1).toInt (gC a i 2).toInt (gC a i 3).toInt (gC a i 4).toStr (gC a i 5).toStr (gC a i 6).toList
def xjT (R:Int->Int->Int->Int->List UInt8->List UInt8->LA->Option Int) (i:Int) (a:LA):=(xjU R i a).getD 0
def xfi {T:Type} (R:Int->Int->Int->Int->List UInt8->List UInt8->LA->Option Int) (n i b c d e:Int) (f g:List UInt8) (a:LA) (δ:T) (κl:(Int×Int×Int×Int×Int×Int×List UInt8×List UInt8×LA)->T) (κr:(Int)->T):T:=br (decide (i<a.length)) (br (ixI a i) (br (ixT a i 7 [Sh.int .i64,Sh.int .i64,Sh.int .i64,Sh.int .i64,Sh.str,Sh.str,Sh.list 7] 0) (br ((xjU R i a).isSome) (κl (if xjT R i a>n then xjT R i a else n,i64.wrap (i+1),b,c,d,e,f,g,a)) δ) δ) δ) (κr (n))
def xbt (R:Int->Int->Int->Int->List UInt8->List UInt8->LA->Option Int):StT (Int×Int×Int×Int×Int×Int×List UInt8×List UInt8×LA) (Int):=fun (n,i,a,b,c,d,e,f,g)=>xfi R n i a b c d e f g none inL inR
def xcd (R:Int->Int->Int->Int->List UInt8->List UInt8->LA->Option Int):(Int×Int×Int×Int×Int×Int×List UInt8×List UInt8×LA)->LA×List Box:=fun (n,i,a,b,c,d,e,f,g)=>([AV.own 0 0 0 0,AV.int .i64 n,AV.int .i64 i],[⟨0,7,153,[AV.agg [AV.int .i64 a,AV.int .i64 b,AV.int .i64 c,AV.int .i64 d,AV.str e,AV.str f,AV.list 7 g]],false,true⟩])
def xc5 (R:Int->Int->Int->Int->List UInt8->List UInt8->LA->Option Int):(Int)->LR:=fun p=>(.leaf (.exit 0) [AV.int .i64 p] [])
abbrev xpE (R:Int->Int->Int->Int->List UInt8->List UInt8->LA->Option Int) (a:LA) (H:List Box):=XR P0 (xfa R) [1,3,4] [3] [] (xKN Tryz.f126 0) a H
theorem xuz (R:Int->Int->Int->Int->List UInt8->List UInt8->LA->Option Int) (s:Int×Int×Int×Int×Int×Int×List UInt8×List UInt8×LA):Enc (encR (xcd R) (xc5 R)) (xbt R s) (xpE R (xcd R s).1 (xcd R s).2):=by
 obtain ⟨n,i,a,b,c,d,e,f,g⟩:=s;have h:xpE R (xcd R (n,i,a,b,c,d,e,f,g)).1 (xcd R (n,i,a,b,c,d,e,f,g)).2=xfi R n i a b c d e f g none (fun s=>some (encR (xcd R) (xc5 R) (.inl s))) (fun p=>some (encR (xcd R) (xc5 R) (.inr p))):=by kernel_rfl
 rw [h];unfold xbt xfi;repeat' (first|refine Enc.br ?_ ?_|exact Enc.none|exact Enc.some rfl)
def xjS (R:Int->Int->Int->Int->List UInt8->List UInt8->LA->Option Int):Lp:=lpOf [1,3,4] [3] [] (xLq (xLE 0 0 0 0) (xLq (pInt .i64) (xLq (pInt .i64) xLs))) (xLq (xLG 0 7 153 false true (xLq (xLF (xLq (pInt .i64) (xLq (pInt .i64) (xLq (pInt .i64) (xLq (pInt .i64) (xLq pStr (xLq pStr (xLq (xLJ 7 xLu) xLs)))))))) xLs)) xLs) fun (_,(n,(i,_))) (((a,(b,(c,(d,(e,(f,(g,_))))))),_),_)=>((Iter (xbt R) (n,i,a,b,c,d,e,f,g)).isSome,xc5 R ((Iter (xbt R) (n,i,a,b,c,d,e,f,g)).getD 0))
theorem xsZ (R:Int->Int->Int->Int->List UInt8->List UInt8->LA->Option Int) (a:xjR R):LoopOk P0 (xLp.at (xfa R).pin) (xfa R).nt (xKN Tryz.f126 0) (xjS R):=xzJ fun k l o m=>by
 obtain ⟨_,⟨n,⟨i,_⟩⟩⟩:=k;obtain ⟨⟨⟨b,⟨c,⟨d,⟨e,⟨f,⟨g,⟨h,_⟩⟩⟩⟩⟩⟩⟩,_⟩,_⟩:=l;obtain ⟨j,rfl⟩:=Prod.mk.inj m;exact xrA xKS (xKT P0 _) rfl (xts R a) (xqM R a) (xcd R) (xc5 R) (fun p=>by simp only [xc5,LR.eval];first|(simp;done)|(repeat' split<;>simp)) (xuz R) (s:=(n,i,b,c,d,e,f,g,h)) (xaL j)
def xdM (R:Int->Int->Int->Int->List UInt8->List UInt8->LA->Option (Int)):Env:=(xq5.E.with 126 (xdN R)).fn 22 0 (lsOf []) (xK4 [(3,xjS R)])
theorem xtt (R:Int->Int->Int->Int->List UInt8->List UInt8->LA->Option (Int)) (a:xdp R):xKJ P0 (xLp.at 0) (xdM R):=(xq5.ok.with a).fn
theorem xrM (R:Int->Int->Int->Int->List UInt8->List UInt8->LA->Option (Int)) (c:xdp R):LoOk P0 (xLp.at (xdM R).pin) (xdM R) (Tryz.f126.body.getD .skip):=xmH (ls:=[xKN Tryz.f126 0]) (by kernel_rfl) (fun l b lp a=>by
 simp only [zB,List.not_mem_nil,or_false] at b;rcases b with rfl
 . rw [show (xdM R).lp (xKX (xKN Tryz.f126 0))=some (xjS R) by kernel_rfl] at a
   simp only [z1] at a;subst a;exact xsZ R c)
def xmY (R:Int->Int->Int->Int->List UInt8->List UInt8->LA->Option Int) (b i c d:Int) (e f:List UInt8) (a:LA):=Iter (xbt R) (0,0,b,i,c,d,e,f,a)
def xkg {T:Type} (R:Int->Int->Int->Int->List UInt8->List UInt8->LA->Option Int) (b i c d:Int) (e f:List UInt8) (a:LA) (δ:T) (κ:Int->T):T:=br ((xmY R b i c d e f a).isSome) (κ (i64.wrap ((xmY R b i c d e f a).getD 0+1))) δ
def xgm (R:Int->Int->Int->Int->List UInt8->List UInt8->LA->Option Int) (b i c d:Int) (e f:List UInt8) (a:LA):=xkg R b i c d e f a none some
theorem xyN (R:Int->Int->Int->Int->List UInt8->List UInt8->LA->Option Int) (b i c d:Int) (e f:List UInt8) (a:LA):Enc (fun (p:Int)=>((AV.int .i64 p):AV)) (xgm R b i c d e f a) (XF P0 (xdM R) Tryz.f126 (Tryz.f126.body.getD .skip) [AV.agg [AV.int .i64 b,AV.int .i64 i,AV.int .i64 c,AV.int .i64 d,AV.str e,AV.str f,AV.list 7 a]]):=by
 have h:XF P0 (xdM R) Tryz.f126 (Tryz.f126.body.getD .skip) [AV.agg [AV.int .i64 b,AV.int .i64 i,AV.int .i64 c,AV.int .i64 d,AV.str e,AV.str f,AV.list 7 a]]=xkg R b i c d e f a none (fun (p:Int)=>some ((AV.int .i64 p):AV)):=by kernel_rfl
 rw [h];unfold xgm xkg;repeat' (first|refine Enc.br ?_ ?_|exact Enc.none|exact Enc.some rfl)
def xyM (R:Int->Int->Int->Int->List UInt8->List UInt8->LA->Option Int):LA->Option (Bool×AV):=ocOf (xLr (xLI (xLr (sEq (pInt .i64)) (xLr (sEq (pInt .i64)) (xLr (sEq (pInt .i64)) (xLr (sEq (pInt .i64)) (xLr (sEq pStr) (xLr (sEq pStr) (xLr (xLH 7 xLu) xLt)))))))) xLt) fun ((b,(i,(c,(d,(e,(f,(a,_))))))),_)=>((xgm R b i c d e f a).isSome,(AV.int .i64 ((xgm R b i c d e f a).getD 0)))
theorem xyL (R:Int->Int->Int->Int->List UInt8->List UInt8->LA->Option Int) (a:xdp R):OcOk P0 xLp 126 (xyM R):=xfF fun e h f=>by
 obtain ⟨⟨j,⟨i,⟨k,⟨l,⟨m,⟨n,⟨g,_⟩⟩⟩⟩⟩⟩⟩,_⟩:=e;obtain ⟨b,c⟩:=Prod.mk.inj f;refine xhl (p:=(xdM R).pin) (xjf xKS (xKT P0 _) rfl (xtt R a) Tryz.func126 rfl (by kernel_rfl) (xrM R a) ((xyN R _ _ _ _ _ _ _ _ (xaL (d:=0) b)).trans ?_))
 exact congrArg some c
def xcT:Nat->Int->Int->Int->Int->List UInt8->List UInt8->LA->Option (Int)
 | 0=>fun _ _ _ _ _ _ _=>none
 | fu_+1=>fun b i c d e f a=>xgm (xcT fu_) b i c d e f a
theorem xpD:∀ n,xdp (xcT n)
 | 0=>xfF fun _ _ h=>absurd (Prod.mk.inj h).1 Bool.false_ne_true
 | fu_+1=>fun a r h=>xyL (xcT fu_) (xpD fu_) a r h
def xhx:Int->Int->Int->Int->List UInt8->List UInt8->LA->Option (Int):=fun b i c d e f a=>limN fun n=>xcT n b i c d e f a
theorem xuy:xdp xhx:=xsp 126 xcT xpD
def xuI:Env:=xq5.E.with 126 (xdN xhx)
theorem xss:xKJ P0 xLp xuI:=xq5.ok.with xuy
def xdL (R:Int->Int->Int->Int->List UInt8->List UInt8->LA->LA->Option (Int×Int)):LA->Option (Bool×AV):=ocOf (xLr (xLI (xLr (sEq (pInt .i64)) (xLr (sEq (pInt .i64)) (xLr (sEq (pInt .i64)) (xLr (sEq (pInt .i64)) (xLr (sEq pStr) (xLr (sEq pStr) (xLr (xLH 7 xLu) xLt)))))))) (xLr (xLH 1 xLu) xLt)) fun ((b,(i,(c,(d,(e,(f,(a,_))))))),(g,_))=>((R b i c d e f a g).isSome,AV.tuple [AV.int .i64 (((R b i c d e f a g).getD (0,0))).1,AV.int .i64 (((R b i c d e f a g).getD (0,0))).2])
theorem xso (k:Go.FuncId) (R:Nat->Int->Int->Int->Int->List UInt8->List UInt8->LA->LA->Option (Int×Int)) (j:∀ n,OcOk P0 xLp k (xdL (R n))):OcOk P0 xLp k (xdL (fun b i c d e f a g=>limN fun n=>R n b i c d e f a g)):=xzR j fun v h=>by
 obtain ⟨⟨b,⟨i,⟨c,⟨d,⟨e,⟨f,⟨a,_⟩⟩⟩⟩⟩⟩⟩,⟨g,_⟩⟩:=v;obtain ⟨n,l⟩:=xwM (R:=fun n=>R n b i c d e f a g) h
 exact ⟨n,congrArg (fun o=>(Option.isSome o,(AV.tuple [AV.int .i64 ((Option.getD o (0,0))).1,AV.int .i64 ((Option.getD o (0,0))).2]:AV))) l⟩
def xdo (R:Int->Int->Int->Int->List UInt8->List UInt8->LA->LA->Option (Int×Int)):Prop:=OcOk P0 xLp 127 (xdL R)
def xe9 (R:Int->Int->Int->Int->List UInt8->List UInt8->LA->LA->Option (Int×Int)):Env:=(xuI.with 127 (xdL R)).fn 75 0 (lsOf []) (xK4 [])
abbrev xjM (R:Int->Int->Int->Int->List UInt8->List UInt8->LA->LA->Option (Int×Int)):Prop:=xdo R
theorem xtq (R:Int->Int->Int->Int->List UInt8->List UInt8->LA->LA->Option (Int×Int)) (a:xjM R):xKJ P0 (xLp.at 0) (xe9 R):=(xss.with a).fn
theorem xqL (R:Int->Int->Int->Int->List UInt8->List UInt8->LA->LA->Option (Int×Int)) (a:xjM R):LoOk P0 (xLp.at (xe9 R).pin) (xe9 R) (xKN Tryz.f127 0):=xgk (by kernel_rfl)
def xjQ (R:Int->Int->Int->Int->List UInt8->List UInt8->LA->LA->Option (Int×Int)) (b:LA) (i:Int) (a:LA):Option (Int×Int):=R (gC a i 0).toInt (gC a i 1).toInt (gC a i 2).toInt (gC a i 3).toInt (gC a i 4).toStr (gC a i 5).toStr (gC a i 6).toList b
def xjP (R:Int->Int->Int->Int->List UInt8->List UInt8->LA->LA->Option (Int×Int)) (a:LA) (i:Int) (b:LA):Int×Int:=(xjQ R a i b).getD (0,0)
def xjO (R:Int->Int->Int->Int->List UInt8->List UInt8->LA->LA->Option (Int×Int)) (a:LA) (i:Int) (b:LA):Int:=(xjP R a i b).snd
def xfh {T:Type} (R:Int->Int->Int->Int->List UInt8->List UInt8->LA->LA->Option (Int×Int)) (b:LA) (d:Nat) (i e f g h:Int) (j k:List UInt8) (a c:LA) (δ:T) (κl:(Nat×Int×Int×Int×Int×Int×List UInt8×List UInt8×LA×LA)->T) (κr:(Bool×(Int×Int×Nat×Int×Int×Int×Int×List UInt8×List UInt8×LA×LA)×(Nat×Int×Int×Int×Int×List UInt8×List UInt8×LA×LA))->T):T:=br (decide (i<a.length)) (br (ixI a i) (br (ixT a i 7 [Sh.int .i64,Sh.int .i64,Sh.int .i64,Sh.int .i64,Sh.str,Sh.str,Sh.list 7] 0) (br ((xjQ R b i a).isSome) (br (xjO R b i a != 0) (κr (true,(0,xjO R b i a,d,e,f,g,h,j,k,a,c),(0,0,0,0,0,[],[],[],[]))) (br (rmB d c 1 8) (κl (d+1,i64.wrap (i+1),e,f,g,h,j,k,a,c++[AV.int .i64 (xjP R b i a).fst])) δ)) δ) δ) δ) (κr (false,(0,0,0,0,0,0,0,[],[],[],[]),(d,e,f,g,h,j,k,a,c)))
def xbs (R:Int->Int->Int->Int->List UInt8->List UInt8->LA->LA->Option (Int×Int)) (a:LA):StT (Nat×Int×Int×Int×Int×Int×List UInt8×List UInt8×LA×LA) (Bool×(Int×Int×Nat×Int×Int×Int×Int×List UInt8×List UInt8×LA×LA)×(Nat×Int×Int×Int×Int×List UInt8×List UInt8×LA×LA)):=fun (c,i,d,e,f,g,h,j,k,b)=>xfh R a c i d e f g h j k b none inL inR
def xcc (R:Int->Int->Int->Int->List UInt8->List UInt8->LA->LA->Option (Int×Int)) (a:LA):(Nat×Int×Int×Int×Int×Int×List UInt8×List UInt8×LA×LA)->LA×List Box:=fun (c,i,d,e,f,g,h,j,k,b)=>([AV.list 1 a,AV.own 0 0 0 0,AV.osl 1 0 0 c,AV.int .i64 i],[⟨0,7,153,[AV.agg [AV.int .i64 d,AV.int .i64 e,AV.int .i64 f,AV.int .i64 g,AV.str h,AV.str j,AV.list 7 k]],false,true⟩,⟨0,1,3,b,false,true⟩])
def xc4 (R:Int->Int->Int->Int->List UInt8->List UInt8->LA->LA->Option (Int×Int)) (a:LA):(Bool×(Int×Int×Nat×Int×Int×Int×Int×List UInt8×List UInt8×LA×LA)×(Nat×Int×Int×Int×Int×List UInt8×List UInt8×LA×LA))->LR:=fun p=>(.node p.1 (.leaf .ret [AV.list 1 a,AV.own 0 0 0 0,AV.int .i64 p.2.1.1,AV.int .i64 p.2.1.2.1,AV.osl 1 0 0 p.2.1.2.2.1] [⟨0,7,153,[AV.agg [AV.int .i64 p.2.1.2.2.2.1,AV.int .i64 p.2.1.2.2.2.2.1,AV.int .i64 p.2.1.2.2.2.2.2.1,AV.int .i64 p.2.1.2.2.2.2.2.2.1,AV.str p.2.1.2.2.2.2.2.2.2.1,AV.str p.2.1.2.2.2.2.2.2.2.2.1,AV.list 7 p.2.1.2.2.2.2.2.2.2.2.2.1]],false,true⟩,⟨0,1,3,p.2.1.2.2.2.2.2.2.2.2.2.2,false,true⟩]) (.leaf (.exit 0) [AV.list 1 a,AV.own 0 0 0 0,.top,.top,AV.osl 1 0 0 p.2.2.1] [⟨0,7,153,[AV.agg [AV.int .i64 p.2.2.2.1,AV.int .i64 p.2.2.2.2.1,AV.int .i64 p.2.2.2.2.2.1,AV.int .i64 p.2.2.2.2.2.2.1,AV.str p.2.2.2.2.2.2.2.1,AV.str p.2.2.2.2.2.2.2.2.1,AV.list 7 p.2.2.2.2.2.2.2.2.2.1]],false,true⟩,⟨0,1,3,p.2.2.2.2.2.2.2.2.2.2,false,true⟩]))
abbrev xpC (R:Int->Int->Int->Int->List UInt8->List UInt8->LA->LA->Option (Int×Int)) (a:LA) (H:List Box):=XR P0 (xe9 R) [1,2,8,9] [1,2,4,5,8] [(8,1,3)] (xKN Tryz.f127 0) a H
theorem xuw (R:Int->Int->Int->Int->List UInt8->List UInt8->LA->LA->Option (Int×Int)) (a:LA) (s:Nat×Int×Int×Int×Int×Int×List UInt8×List UInt8×LA×LA):Enc (encR (xcc R a) (xc4 R a)) (xbs R a s) (xpC R (xcc R a s).1 (xcc R a s).2):=by
 obtain ⟨c,i,d,e,f,g,j,k,l,b⟩:=s;have h:xpC R (xcc R a (c,i,d,e,f,g,j,k,l,b)).1 (xcc R a (c,i,d,e,f,g,j,k,l,b)).2=xfh R a c i d e f g j k l b none (fun s=>some (encR (xcc R a) (xc4 R a) (.inl s))) (fun p=>some (encR (xcc R a) (xc4 R a) (.inr p))):=by kernel_rfl
 rw [h];unfold xbs xfh;repeat' (first|refine Enc.br ?_ ?_|exact Enc.none|exact Enc.some rfl)
def xjN (R:Int->Int->Int->Int->List UInt8->List UInt8->LA->LA->Option (Int×Int)):Lp:=lpOf [1,2,8,9] [1,2,4,5,8] [(8,1,3)] (xLq (xLJ 1 xLu) (xLq (xLE 0 0 0 0) (xLq (xLD 1 0 0) (xLq (pInt .i64) xLs)))) (xLq (xLG 0 7 153 false true (xLq (xLF (xLq (pInt .i64) (xLq (pInt .i64) (xLq (pInt .i64) (xLq (pInt .i64) (xLq pStr (xLq pStr (xLq (xLJ 7 xLu) xLs)))))))) xLs)) (xLq (xLG 0 1 3 false true xLu) xLs)) fun (a,(_,(c,(i,_)))) (((d,(e,(f,(g,(h,(j,(k,_))))))),_),(b,_))=>((Iter (xbs R a) (c,i,d,e,f,g,h,j,k,b)).isSome,xc4 R a ((Iter (xbs R a) (c,i,d,e,f,g,h,j,k,b)).getD (false,(0,0,0,0,0,0,0,[],[],[],[]),(0,0,0,0,0,[],[],[],[]))))
theorem xsY (R:Int->Int->Int->Int->List UInt8->List UInt8->LA->LA->Option (Int×Int)) (c:xjM R):LoopOk P0 (xLp.at (xe9 R).pin) (xe9 R).nt (xKN Tryz.f127 0) (xjN R):=xzJ fun n o r q=>by
 obtain ⟨a,⟨_,⟨d,⟨i,_⟩⟩⟩⟩:=n;obtain ⟨⟨⟨e,⟨f,⟨g,⟨h,⟨j,⟨k,⟨l,_⟩⟩⟩⟩⟩⟩⟩,_⟩,⟨b,_⟩⟩:=o;obtain ⟨m,rfl⟩:=Prod.mk.inj q;exact xrA xKS (xKT P0 _) rfl (xtq R c) (xqL R c) (xcc R a) (xc4 R a) (fun p=>by simp only [xc4,LR.eval];first|(simp;done)|(repeat' split<;>simp)) (xuw R a) (s:=(d,i,e,f,g,h,j,k,l,b)) (xaL m)
def xdK (R:Int->Int->Int->Int->List UInt8->List UInt8->LA->LA->Option (Int×Int)):Env:=(xuI.with 127 (xdL R)).fn 75 0 (lsOf []) (xK4 [(10,xjN R)])
theorem xtr (R:Int->Int->Int->Int->List UInt8->List UInt8->LA->LA->Option (Int×Int)) (a:xdo R):xKJ P0 (xLp.at 0) (xdK R):=(xss.with a).fn
theorem xrL (R:Int->Int->Int->Int->List UInt8->List UInt8->LA->LA->Option (Int×Int)) (c:xdo R):LoOk P0 (xLp.at (xdK R).pin) (xdK R) (Tryz.f127.body.getD .skip):=xmH (ls:=[xKN Tryz.f127 0]) (by kernel_rfl) (fun l b lp a=>by
 simp only [zB,List.not_mem_nil,or_false] at b;rcases b with rfl
 . rw [show (xdK R).lp (xKX (xKN Tryz.f127 0))=some (xjN R) by kernel_rfl] at a
   simp only [z1] at a;subst a;exact xsY R c)
def xlY (R:Int->Int->Int->Int->List UInt8->List UInt8->LA->LA->Option (Int×Int)) (b i c d:Int) (e f:List UInt8) (a g:LA):Option
 (Bool ×
  (Int×Int×Nat×Int×Int×Int×Int×List UInt8×List UInt8×LA×LA) ×
   Nat×Int×Int×Int×Int×List UInt8×List UInt8×LA×LA):=Iter (xbs R g) (0,0,b,i,c,d,e,f,a,[])
def xlX (R:Int->Int->Int->Int->List UInt8->List UInt8->LA->LA->Option (Int×Int)) (b i c d:Int) (e f:List UInt8) (a g:LA):Bool ×
 (Int×Int×Nat×Int×Int×Int×Int×List UInt8×List UInt8×LA×LA) ×
  Nat×Int×Int×Int×Int×List UInt8×List UInt8×LA×LA:=(xlY R b i c d e f a g).getD (false,(0,0,0,0,0,0,0,[],[],[],[]),0,0,0,0,0,[],[],[],[])
def xlW (R:Int->Int->Int->Int->List UInt8->List UInt8->LA->LA->Option (Int×Int)) (b i c d:Int) (e f:List UInt8) (a g:LA):(Int×Int×Nat×Int×Int×Int×Int×List UInt8×List UInt8×LA×LA) ×
 Nat×Int×Int×Int×Int×List UInt8×List UInt8×LA×LA:=(xlX R b i c d e f a g).snd
def xlU (R:Int->Int->Int->Int->List UInt8->List UInt8->LA->LA->Option (Int×Int)) (b i c d:Int) (e f:List UInt8) (a g:LA):Int×Int×Nat×Int×Int×Int×Int×List UInt8×List UInt8×LA×LA:=(xlW R b i c d e f a g).fst
def xlV (R:Int->Int->Int->Int->List UInt8->List UInt8->LA->LA->Option (Int×Int)) (b i c d:Int) (e f:List UInt8) (a g:LA):Nat×Int×Int×Int×Int×List UInt8×List UInt8×LA×LA:=(xlW R b i c d e f a g).snd
def xmX (R:Int->Int->Int->Int->List UInt8->List UInt8->LA->LA->Option (Int×Int)) (b i c d:Int) (e f:List UInt8) (a g:LA):Int×Int×Int×Int×List UInt8×List UInt8×LA×LA:=(xlV R b i c d e f a g).snd
def xlT (R:Int->Int->Int->Int->List UInt8->List UInt8->LA->LA->Option (Int×Int)) (b i c d:Int) (e f:List UInt8) (a g:LA):Nat:=(xlV R b i c d e f a g).fst
def xmW (R:Int->Int->Int->Int->List UInt8->List UInt8->LA->LA->Option (Int×Int)) (b i c d:Int) (e f:List UInt8) (a g:LA):Int×Int×Int×List UInt8×List UInt8×LA×LA:=(xmX R b i c d e f a g).snd
def xmV (R:Int->Int->Int->Int->List UInt8->List UInt8->LA->LA->Option (Int×Int)) (b i c d:Int) (e f:List UInt8) (a g:LA):Int×Int×List UInt8×List UInt8×LA×LA:=(xmW R b i c d e f a g).snd
def xmU (R:Int->Int->Int->Int->List UInt8->List UInt8->LA->LA->Option (Int×Int)) (b i c d:Int) (e f:List UInt8) (a g:LA):Int×List UInt8×List UInt8×LA×LA:=(xmV R b i c d e f a g).snd
def xmT (R:Int->Int->Int->Int->List UInt8->List UInt8->LA->LA->Option (Int×Int)) (b i c d:Int) (e f:List UInt8) (a g:LA):List UInt8×List UInt8×LA×LA:=(xmU R b i c d e f a g).snd
def xmS (R:Int->Int->Int->Int->List UInt8->List UInt8->LA->LA->Option (Int×Int)) (b i c d:Int) (e f:List UInt8) (a g:LA):List UInt8×LA×LA:=(xmT R b i c d e f a g).snd
def xmR (R:Int->Int->Int->Int->List UInt8->List UInt8->LA->LA->Option (Int×Int)) (b i c d:Int) (e f:List UInt8) (a g:LA):LA×LA:=(xmS R b i c d e f a g).snd
def xmQ (R:Int->Int->Int->Int->List UInt8->List UInt8->LA->LA->Option (Int×Int)) (b i c d:Int) (e f:List UInt8) (a g:LA):LA:=(xmR R b i c d e f a g).snd
def xmP (R:Int->Int->Int->Int->List UInt8->List UInt8->LA->LA->Option (Int×Int)) (c i d e:Int) (f g:List UInt8) (a b:LA):Option (Int×Bool):=xgL (xmX R c i d e f g a b).fst (xmW R c i d e f g a b).fst (xmV R c i d e f g a b).fst (xmU R c i d e f g a b).fst (xmT R c i d e f g a b).fst (xmS R c i d e f g a b).fst (xmR R c i d e f g a b).fst (List.take (xlT R c i d e f g a b) (List.drop 0 (xmQ R c i d e f g a b))) b
def xmO (R:Int->Int->Int->Int->List UInt8->List UInt8->LA->LA->Option (Int×Int)) (b i c d:Int) (e f:List UInt8) (a g:LA):Int×Bool:=(xmP R b i c d e f a g).getD (0,false)
def xiv {T:Type} (R:Int->Int->Int->Int->List UInt8->List UInt8->LA->LA->Option (Int×Int)) (b i c d:Int) (e f:List UInt8) (a g:LA) (δ:T) (κ:Int×Int->T):T:=br ((xlY R b i c d e f a g).isSome) (br ((xlX R b i c d e f a g).fst) (κ ((xlU R b i c d e f a g).fst,(xlU R b i c d e f a g).snd.fst)) (br (decide (0+xlT R b i c d e f a g<=(xmQ R b i c d e f a g).length)&&true) (br ((xmP R b i c d e f a g).isSome) (br (!(xmO R b i c d e f a g).snd) (κ (0,7)) (κ ((xmO R b i c d e f a g).fst,0))) δ) δ)) δ
def xkf {T:Type} (R:Int->Int->Int->Int->List UInt8->List UInt8->LA->LA->Option (Int×Int)) (b i c d:Int) (e f:List UInt8) (a g:LA) (δ:T) (κ:Int×Int->T):T:=br (decide ((xh5 b).fst<0)) (κ (0,7)) (br ((xlS b i c d e f a).isSome) (br (!(xlS b i c d e f a).getD false) (κ (0,8)) (br (b==2) (br (decide (i<0)) (κ (0,13)) (br (decide (i>=g.length)) (κ (0,13)) (xiv R b i c d e f a g δ κ))) (xiv R b i c d e f a g δ κ))) δ)
def xe3 (R:Int->Int->Int->Int->List UInt8->List UInt8->LA->LA->Option (Int×Int)) (b i c d:Int) (e f:List UInt8) (a g:LA):=xkf R b i c d e f a g none some
theorem xyK (R:Int->Int->Int->Int->List UInt8->List UInt8->LA->LA->Option (Int×Int)) (b i c d:Int) (e f:List UInt8) (a g:LA):Enc (fun (p:Int×Int)=>((AV.tuple [AV.int .i64 p.1,AV.int .i64 p.2]):AV)) (xe3 R b i c d e f a g) (XF P0 (xdK R) Tryz.f127 (Tryz.f127.body.getD .skip) [AV.agg [AV.int .i64 b,AV.int .i64 i,AV.int .i64 c,AV.int .i64 d,AV.str e,AV.str f,AV.list 7 a],AV.list 1 g]):=by
 have h:XF P0 (xdK R) Tryz.f127 (Tryz.f127.body.getD .skip) [AV.agg [AV.int .i64 b,AV.int .i64 i,AV.int .i64 c,AV.int .i64 d,AV.str e,AV.str f,AV.list 7 a],AV.list 1 g]=xkf R b i c d e f a g none (fun (p:Int×Int)=>some ((AV.tuple [AV.int .i64 p.1,AV.int .i64 p.2]):AV)):=by kernel_rfl
 rw [h];unfold xe3 xkf xiv;repeat' (first|refine Enc.br ?_ ?_|exact Enc.none|exact Enc.some rfl)
def xyJ (R:Int->Int->Int->Int->List UInt8->List UInt8->LA->LA->Option (Int×Int)):LA->Option (Bool×AV):=ocOf (xLr (xLI (xLr (sEq (pInt .i64)) (xLr (sEq (pInt .i64)) (xLr (sEq (pInt .i64)) (xLr (sEq (pInt .i64)) (xLr (sEq pStr) (xLr (sEq pStr) (xLr (xLH 7 xLu) xLt)))))))) (xLr (xLH 1 xLu) xLt)) fun ((b,(i,(c,(d,(e,(f,(a,_))))))),(g,_))=>((xe3 R b i c d e f a g).isSome,(AV.tuple [AV.int .i64 ((xe3 R b i c d e f a g).getD (0,0)).1,AV.int .i64 ((xe3 R b i c d e f a g).getD (0,0)).2]))
theorem xyI (R:Int->Int->Int->Int->List UInt8->List UInt8->LA->LA->Option (Int×Int)) (a:xdo R):OcOk P0 xLp 127 (xyJ R):=xfF fun e h f=>by
 obtain ⟨⟨j,⟨i,⟨k,⟨l,⟨m,⟨n,⟨g,_⟩⟩⟩⟩⟩⟩⟩,⟨o,_⟩⟩:=e;obtain ⟨b,c⟩:=Prod.mk.inj f;refine xhl (p:=(xdK R).pin) (xjf xKS (xKT P0 _) rfl (xtr R a) Tryz.func127 rfl (by kernel_rfl) (xrL R a) ((xyK R _ _ _ _ _ _ _ _ _ (xaL (d:=(0,0)) b)).trans ?_))
 exact congrArg some c
def xcS:Nat->Int->Int->Int->Int->List UInt8->List UInt8->LA->LA->Option (Int×Int)
 | 0=>fun _ _ _ _ _ _ _ _=>none
 | fu_+1=>fun b i c d e f a g=>xe3 (xcS fu_) b i c d e f a g
theorem xpB:∀ n,xdo (xcS n)
 | 0=>xfF fun _ _ h=>absurd (Prod.mk.inj h).1 Bool.false_ne_true
 | fu_+1=>fun a r h=>xyI (xcS fu_) (xpB fu_) a r h
def xfI:Int->Int->Int->Int->List UInt8->List UInt8->LA->LA->Option (Int×Int):=fun b i c d e f a g=>limN fun n=>xcS n b i c d e f a g
theorem xuv:xdo xfI:=xso 127 xcS xpB
def xDk:Env:=xuI.with 127 (xdL xfI)
theorem xDm:xKJ P0 xLp xDk:=xss.with xuv
def xDl:EO:=EO.mk xDk xDm
def xoi {T:Type} (b h c d:Int) (e f:List UInt8) (a g:LA) (δ:T) (κ:Int×Int->T):T:=br ((xhx b h c d e f a).isSome) (br (decide ((xhx b h c d e f a).getD 0>24)) (κ (0,26)) (br ((xfI b h c d e f a g).isSome) (κ (((xfI b h c d e f a g).getD (0,0)).fst,((xfI b h c d e f a g).getD (0,0)).snd)) δ)) δ
def xqJ (c h d e:Int) (f g:List UInt8) (a b:LA):=xoi c h d e f g a b none some
def xGp:EO:=xDl.f Tryz.func107 14 0 [] [] lk0 (u2 (xLI (u7 uI uI uI uI (sEq pStr) (sEq pStr) (uL 7))) (uL 1)) (fun ((c,i,d,e,g,h,a,_),b,_) _=>xoi c i d e g h a b) (fun _ p=>AV.tuple [AV.int .i64 p.1,AV.int .i64 p.2]) (0,0)
def xAV:LA:=(([AV.str [(97:UInt8),(100:UInt8),(100:UInt8)],AV.str [(97:UInt8),(102:UInt8),(116:UInt8),(101:UInt8),(114:UInt8)],AV.str [(97:UInt8),(108:UInt8),(108:UInt8)],AV.str [(97:UInt8),(108:UInt8),(116:UInt8),(101:UInt8),(114:UInt8)],AV.str [(97:UInt8),(110:UInt8),(100:UInt8)],AV.str [(97:UInt8),(115:UInt8)],AV.str [(98:UInt8),(101:UInt8),(102:UInt8),(111:UInt8),(114:UInt8),(101:UInt8)],AV.str [(98:UInt8),(101:UInt8),(103:UInt8),(105:UInt8),(110:UInt8)],AV.str [(98:UInt8),(101:UInt8),(116:UInt8),(119:UInt8),(101:UInt8),(101:UInt8),(110:UInt8)],AV.str [(98:UInt8),(111:UInt8),(111:UInt8),(108:UInt8)],AV.str [(98:UInt8),(121:UInt8)],AV.str [(99:UInt8),(104:UInt8),(101:UInt8),(99:UInt8),(107:UInt8)],AV.str [(99:UInt8),(111:UInt8),(97:UInt8),(108:UInt8),(101:UInt8),(115:UInt8),(99:UInt8),(101:UInt8)],AV.str [(99:UInt8),(111:UInt8),(109:UInt8),(109:UInt8),(105:UInt8),(116:UInt8)],AV.str [(99:UInt8),(111:UInt8),(110:UInt8),(116:UInt8),(97:UInt8),(105:UInt8),(110:UInt8),(115:UInt8)],AV.str [(99:UInt8),(111:UInt8),(117:UInt8),(110:UInt8),(116:UInt8)],AV.str [(99:UInt8),(114:UInt8),(101:UInt8),(97:UInt8),(116:UInt8),(101:UInt8)],AV.str [(100:UInt8),(101:UInt8),(102:UInt8),(97:UInt8),(117:UInt8),(108:UInt8),(116:UInt8)],AV.str [(100:UInt8),(101:UInt8),(108:UInt8),(101:UInt8),(116:UInt8),(101:UInt8)],AV.str [(100:UInt8),(101:UInt8),(115:UInt8),(99:UInt8)],AV.str [(100:UInt8),(105:UInt8),(115:UInt8),(116:UInt8),(105:UInt8),(110:UInt8),(99:UInt8),(116:UInt8)],AV.str [(100:UInt8),(114:UInt8),(111:UInt8),(112:UInt8)],AV.str [(100:UInt8),(117:UInt8),(114:UInt8),(105:UInt8),(110:UInt8),(103:UInt8)],AV.str [(101:UInt8),(113:UInt8),(117:UInt8),(97:UInt8),(108:UInt8),(115:UInt8)],AV.str [(101:UInt8),(120:UInt8),(99:UInt8),(101:UInt8),(112:UInt8),(116:UInt8)],AV.str [(102:UInt8),(97:UInt8),(108:UInt8),(115:UInt8),(101:UInt8)],AV.str [(102:UInt8),(105:UInt8),(110:UInt8),(105:UInt8),(115:UInt8),(104:UInt8),(101:UInt8),(100:UInt8),(98:UInt8),(121:UInt8)],AV.str [(102:UInt8),(105:UInt8),(110:UInt8),(105:UInt8),(115:UInt8),(104:UInt8),(101:UInt8),(115:UInt8)],AV.str [(102:UInt8),(111:UInt8),(114:UInt8),(101:UInt8),(105:UInt8),(103:UInt8),(110:UInt8)],AV.str [(102:UInt8),(111:UInt8),(114:UInt8),(101:UInt8),(118:UInt8),(101:UInt8),(114:UInt8)],AV.str [(102:UInt8),(114:UInt8),(111:UInt8),(109:UInt8)],AV.str [(103:UInt8),(114:UInt8),(111:UInt8),(117:UInt8),(112:UInt8)],AV.str [(104:UInt8),(111:UInt8),(108:UInt8),(100:UInt8)],AV.str [(105:UInt8),(102:UInt8)],AV.str [(105:UInt8),(110:UInt8),(115:UInt8),(101:UInt8),(114:UInt8),(116:UInt8)],AV.str [(105:UInt8),(110:UInt8),(116:UInt8)],AV.str [(105:UInt8),(110:UInt8),(116:UInt8),(101:UInt8),(114:UInt8),(115:UInt8),(101:UInt8),(99:UInt8),(116:UInt8)],AV.str [(105:UInt8),(110:UInt8),(116:UInt8),(111:UInt8)],AV.str [(105:UInt8),(115:UInt8)],AV.str [(106:UInt8),(111:UInt8),(105:UInt8),(110:UInt8)],AV.str [(107:UInt8),(101:UInt8),(121:UInt8)],AV.str [(108:UInt8),(101:UInt8),(102:UInt8),(116:UInt8)],AV.str [(108:UInt8),(101:UInt8),(110:UInt8),(103:UInt8),(116:UInt8),(104:UInt8)],AV.str [(108:UInt8),(105:UInt8),(109:UInt8),(105:UInt8),(116:UInt8)],AV.str [(109:UInt8),(97:UInt8),(120:UInt8)],AV.str [(109:UInt8),(101:UInt8),(101:UInt8),(116:UInt8),(115:UInt8)],AV.str [(109:UInt8),(101:UInt8),(116:UInt8),(98:UInt8),(121:UInt8)],AV.str [(109:UInt8),(105:UInt8),(110:UInt8)],AV.str [(110:UInt8),(111:UInt8),(110:UInt8),(115:UInt8),(101:UInt8),(113:UInt8),(117:UInt8),(101:UInt8),(110:UInt8),(99:UInt8),(101:UInt8),(100:UInt8)],AV.str [(110:UInt8),(111:UInt8),(116:UInt8)],AV.str [(110:UInt8),(111:UInt8),(119:UInt8)],AV.str [(110:UInt8),(117:UInt8),(108:UInt8),(108:UInt8)],AV.str [(111:UInt8),(102:UInt8)],AV.str [(111:UInt8),(110:UInt8)],AV.str [(111:UInt8),(114:UInt8)],AV.str [(111:UInt8),(114:UInt8),(100:UInt8),(101:UInt8),(114:UInt8)],AV.str [(111:UInt8),(118:UInt8),(101:UInt8),(114:UInt8),(108:UInt8),(97:UInt8),(112:UInt8),(112:UInt8),(101:UInt8),(100:UInt8),(98:UInt8),(121:UInt8)],AV.str [(111:UInt8),(118:UInt8),(101:UInt8),(114:UInt8),(108:UInt8),(97:UInt8),(112:UInt8),(115:UInt8)],AV.str [(112:UInt8),(114:UInt8),(105:UInt8),(109:UInt8),(97:UInt8),(114:UInt8),(121:UInt8)],AV.str [(112:UInt8),(114:UInt8),(117:UInt8),(110:UInt8),(101:UInt8)],AV.str [(114:UInt8),(101:UInt8),(102:UInt8),(101:UInt8),(114:UInt8),(101:UInt8),(110:UInt8),(99:UInt8),(101:UInt8),(115:UInt8)],AV.str [(114:UInt8),(101:UInt8),(108:UInt8),(101:UInt8),(97:UInt8),(115:UInt8),(101:UInt8)],AV.str [(114:UInt8),(101:UInt8),(110:UInt8),(97:UInt8),(109:UInt8),(101:UInt8)],AV.str [(114:UInt8),(101:UInt8),(116:UInt8),(97:UInt8),(105:UInt8),(110:UInt8)],AV.str [(114:UInt8),(111:UInt8),(108:UInt8),(108:UInt8),(98:UInt8),(97:UInt8),(99:UInt8),(107:UInt8)],AV.str [(115:UInt8),(101:UInt8),(108:UInt8),(101:UInt8),(99:UInt8),(116:UInt8)],AV.str [(115:UInt8),(101:UInt8),(113:UInt8),(117:UInt8),(101:UInt8),(110:UInt8),(99:UInt8),(101:UInt8),(100:UInt8)],AV.str [(115:UInt8),(101:UInt8),(116:UInt8)],AV.str [(115:UInt8),(116:UInt8),(97:UInt8),(114:UInt8),(116:UInt8),(101:UInt8),(100:UInt8),(98:UInt8),(121:UInt8)],AV.str [(115:UInt8),(116:UInt8),(97:UInt8),(114:UInt8),(116:UInt8),(115:UInt8)],AV.str [(115:UInt8),(117:UInt8),(109:UInt8)],AV.str [(115:UInt8),(121:UInt8),(115:UInt8),(116:UInt8),(101:UInt8),(109:UInt8)],AV.str [(115:UInt8),(121:UInt8),(115:UInt8),(116:UInt8),(101:UInt8),(109:UInt8),(102:UInt8),(114:UInt8),(111:UInt8),(109:UInt8)],AV.str [(115:UInt8),(121:UInt8),(115:UInt8),(116:UInt8),(101:UInt8),(109:UInt8),(116:UInt8),(111:UInt8)],AV.str [(116:UInt8),(97:UInt8),(98:UInt8),(108:UInt8),(101:UInt8)],AV.str [(116:UInt8),(101:UInt8),(120:UInt8),(116:UInt8)],AV.str [(116:UInt8),(111:UInt8)],AV.str [(116:UInt8),(114:UInt8),(117:UInt8),(101:UInt8)],AV.str [(116:UInt8),(120:UInt8)],AV.str [(117:UInt8),(110:UInt8),(100:UInt8),(101:UInt8),(114:UInt8)],AV.str [(117:UInt8),(110:UInt8),(105:UInt8),(111:UInt8),(110:UInt8)],AV.str [(117:UInt8),(112:UInt8),(100:UInt8),(97:UInt8),(116:UInt8),(101:UInt8)],AV.str [(118:UInt8),(97:UInt8),(108:UInt8),(105:UInt8),(100:UInt8)],AV.str [(118:UInt8),(97:UInt8),(108:UInt8),(105:UInt8),(100:UInt8),(102:UInt8),(114:UInt8),(111:UInt8),(109:UInt8)],AV.str [(118:UInt8),(97:UInt8),(108:UInt8),(105:UInt8),(100:UInt8),(116:UInt8),(111:UInt8)],AV.str [(118:UInt8),(97:UInt8),(108:UInt8),(117:UInt8),(101:UInt8),(115:UInt8)],AV.str [(119:UInt8),(104:UInt8),(101:UInt8),(114:UInt8),(101:UInt8)]]))
def xyR {T:Type} (δ:T) (κ:LA->T):T:=κ ([AV.str [(97:UInt8),(100:UInt8),(100:UInt8)],AV.str [(97:UInt8),(102:UInt8),(116:UInt8),(101:UInt8),(114:UInt8)],AV.str [(97:UInt8),(108:UInt8),(108:UInt8)],AV.str [(97:UInt8),(108:UInt8),(116:UInt8),(101:UInt8),(114:UInt8)],AV.str [(97:UInt8),(110:UInt8),(100:UInt8)],AV.str [(97:UInt8),(115:UInt8)],AV.str [(98:UInt8),(101:UInt8),(102:UInt8),(111:UInt8),(114:UInt8),(101:UInt8)],AV.str [(98:UInt8),(101:UInt8),(103:UInt8),(105:UInt8),(110:UInt8)],AV.str [(98:UInt8),(101:UInt8),(116:UInt8),(119:UInt8),(101:UInt8),(101:UInt8),(110:UInt8)],AV.str [(98:UInt8),(111:UInt8),(111:UInt8),(108:UInt8)],AV.str [(98:UInt8),(121:UInt8)],AV.str [(99:UInt8),(104:UInt8),(101:UInt8),(99:UInt8),(107:UInt8)],AV.str [(99:UInt8),(111:UInt8),(97:UInt8),(108:UInt8),(101:UInt8),(115:UInt8),(99:UInt8),(101:UInt8)],AV.str [(99:UInt8),(111:UInt8),(109:UInt8),(109:UInt8),(105:UInt8),(116:UInt8)],AV.str [(99:UInt8),(111:UInt8),(110:UInt8),(116:UInt8),(97:UInt8),(105:UInt8),(110:UInt8),(115:UInt8)],AV.str [(99:UInt8),(111:UInt8),(117:UInt8),(110:UInt8),(116:UInt8)],AV.str [(99:UInt8),(114:UInt8),(101:UInt8),(97:UInt8),(116:UInt8),(101:UInt8)],AV.str [(100:UInt8),(101:UInt8),(102:UInt8),(97:UInt8),(117:UInt8),(108:UInt8),(116:UInt8)],AV.str [(100:UInt8),(101:UInt8),(108:UInt8),(101:UInt8),(116:UInt8),(101:UInt8)],AV.str [(100:UInt8),(101:UInt8),(115:UInt8),(99:UInt8)],AV.str [(100:UInt8),(105:UInt8),(115:UInt8),(116:UInt8),(105:UInt8),(110:UInt8),(99:UInt8),(116:UInt8)],AV.str [(100:UInt8),(114:UInt8),(111:UInt8),(112:UInt8)],AV.str [(100:UInt8),(117:UInt8),(114:UInt8),(105:UInt8),(110:UInt8),(103:UInt8)],AV.str [(101:UInt8),(113:UInt8),(117:UInt8),(97:UInt8),(108:UInt8),(115:UInt8)],AV.str [(101:UInt8),(120:UInt8),(99:UInt8),(101:UInt8),(112:UInt8),(116:UInt8)],AV.str [(102:UInt8),(97:UInt8),(108:UInt8),(115:UInt8),(101:UInt8)],AV.str [(102:UInt8),(105:UInt8),(110:UInt8),(105:UInt8),(115:UInt8),(104:UInt8),(101:UInt8),(100:UInt8),(98:UInt8),(121:UInt8)],AV.str [(102:UInt8),(105:UInt8),(110:UInt8),(105:UInt8),(115:UInt8),(104:UInt8),(101:UInt8),(115:UInt8)],AV.str [(102:UInt8),(111:UInt8),(114:UInt8),(101:UInt8),(105:UInt8),(103:UInt8),(110:UInt8)],AV.str [(102:UInt8),(111:UInt8),(114:UInt8),(101:UInt8),(118:UInt8),(101:UInt8),(114:UInt8)],AV.str [(102:UInt8),(114:UInt8),(111:UInt8),(109:UInt8)],AV.str [(103:UInt8),(114:UInt8),(111:UInt8),(117:UInt8),(112:UInt8)],AV.str [(104:UInt8),(111:UInt8),(108:UInt8),(100:UInt8)],AV.str [(105:UInt8),(102:UInt8)],AV.str [(105:UInt8),(110:UInt8),(115:UInt8),(101:UInt8),(114:UInt8),(116:UInt8)],AV.str [(105:UInt8),(110:UInt8),(116:UInt8)],AV.str [(105:UInt8),(110:UInt8),(116:UInt8),(101:UInt8),(114:UInt8),(115:UInt8),(101:UInt8),(99:UInt8),(116:UInt8)],AV.str [(105:UInt8),(110:UInt8),(116:UInt8),(111:UInt8)],AV.str [(105:UInt8),(115:UInt8)],AV.str [(106:UInt8),(111:UInt8),(105:UInt8),(110:UInt8)],AV.str [(107:UInt8),(101:UInt8),(121:UInt8)],AV.str [(108:UInt8),(101:UInt8),(102:UInt8),(116:UInt8)],AV.str [(108:UInt8),(101:UInt8),(110:UInt8),(103:UInt8),(116:UInt8),(104:UInt8)],AV.str [(108:UInt8),(105:UInt8),(109:UInt8),(105:UInt8),(116:UInt8)],AV.str [(109:UInt8),(97:UInt8),(120:UInt8)],AV.str [(109:UInt8),(101:UInt8),(101:UInt8),(116:UInt8),(115:UInt8)],AV.str [(109:UInt8),(101:UInt8),(116:UInt8),(98:UInt8),(121:UInt8)],AV.str [(109:UInt8),(105:UInt8),(110:UInt8)],AV.str [(110:UInt8),(111:UInt8),(110:UInt8),(115:UInt8),(101:UInt8),(113:UInt8),(117:UInt8),(101:UInt8),(110:UInt8),(99:UInt8),(101:UInt8),(100:UInt8)],AV.str [(110:UInt8),(111:UInt8),(116:UInt8)],AV.str [(110:UInt8),(111:UInt8),(119:UInt8)],AV.str [(110:UInt8),(117:UInt8),(108:UInt8),(108:UInt8)],AV.str [(111:UInt8),(102:UInt8)],AV.str [(111:UInt8),(110:UInt8)],AV.str [(111:UInt8),(114:UInt8)],AV.str [(111:UInt8),(114:UInt8),(100:UInt8),(101:UInt8),(114:UInt8)],AV.str [(111:UInt8),(118:UInt8),(101:UInt8),(114:UInt8),(108:UInt8),(97:UInt8),(112:UInt8),(112:UInt8),(101:UInt8),(100:UInt8),(98:UInt8),(121:UInt8)],AV.str [(111:UInt8),(118:UInt8),(101:UInt8),(114:UInt8),(108:UInt8),(97:UInt8),(112:UInt8),(115:UInt8)],AV.str [(112:UInt8),(114:UInt8),(105:UInt8),(109:UInt8),(97:UInt8),(114:UInt8),(121:UInt8)],AV.str [(112:UInt8),(114:UInt8),(117:UInt8),(110:UInt8),(101:UInt8)],AV.str [(114:UInt8),(101:UInt8),(102:UInt8),(101:UInt8),(114:UInt8),(101:UInt8),(110:UInt8),(99:UInt8),(101:UInt8),(115:UInt8)],AV.str [(114:UInt8),(101:UInt8),(108:UInt8),(101:UInt8),(97:UInt8),(115:UInt8),(101:UInt8)],AV.str [(114:UInt8),(101:UInt8),(110:UInt8),(97:UInt8),(109:UInt8),(101:UInt8)],AV.str [(114:UInt8),(101:UInt8),(116:UInt8),(97:UInt8),(105:UInt8),(110:UInt8)],AV.str [(114:UInt8),(111:UInt8),(108:UInt8),(108:UInt8),(98:UInt8),(97:UInt8),(99:UInt8),(107:UInt8)],AV.str [(115:UInt8),(101:UInt8),(108:UInt8),(101:UInt8),(99:UInt8),(116:UInt8)],AV.str [(115:UInt8),(101:UInt8),(113:UInt8),(117:UInt8),(101:UInt8),(110:UInt8),(99:UInt8),(101:UInt8),(100:UInt8)],AV.str [(115:UInt8),(101:UInt8),(116:UInt8)],AV.str [(115:UInt8),(116:UInt8),(97:UInt8),(114:UInt8),(116:UInt8),(101:UInt8),(100:UInt8),(98:UInt8),(121:UInt8)],AV.str [(115:UInt8),(116:UInt8),(97:UInt8),(114:UInt8),(116:UInt8),(115:UInt8)],AV.str [(115:UInt8),(117:UInt8),(109:UInt8)],AV.str [(115:UInt8),(121:UInt8),(115:UInt8),(116:UInt8),(101:UInt8),(109:UInt8)],AV.str [(115:UInt8),(121:UInt8),(115:UInt8),(116:UInt8),(101:UInt8),(109:UInt8),(102:UInt8),(114:UInt8),(111:UInt8),(109:UInt8)],AV.str [(115:UInt8),(121:UInt8),(115:UInt8),(116:UInt8),(101:UInt8),(109:UInt8),(116:UInt8),(111:UInt8)],AV.str [(116:UInt8),(97:UInt8),(98:UInt8),(108:UInt8),(101:UInt8)],AV.str [(116:UInt8),(101:UInt8),(120:UInt8),(116:UInt8)],AV.str [(116:UInt8),(111:UInt8)],AV.str [(116:UInt8),(114:UInt8),(117:UInt8),(101:UInt8)],AV.str [(116:UInt8),(120:UInt8)],AV.str [(117:UInt8),(110:UInt8),(100:UInt8),(101:UInt8),(114:UInt8)],AV.str [(117:UInt8),(110:UInt8),(105:UInt8),(111:UInt8),(110:UInt8)],AV.str [(117:UInt8),(112:UInt8),(100:UInt8),(97:UInt8),(116:UInt8),(101:UInt8)],AV.str [(118:UInt8),(97:UInt8),(108:UInt8),(105:UInt8),(100:UInt8)],AV.str [(118:UInt8),(97:UInt8),(108:UInt8),(105:UInt8),(100:UInt8),(102:UInt8),(114:UInt8),(111:UInt8),(109:UInt8)],AV.str [(118:UInt8),(97:UInt8),(108:UInt8),(105:UInt8),(100:UInt8),(116:UInt8),(111:UInt8)],AV.str [(118:UInt8),(97:UInt8),(108:UInt8),(117:UInt8),(101:UInt8),(115:UInt8)],AV.str [(119:UInt8),(104:UInt8),(101:UInt8),(114:UInt8),(101:UInt8)]])
def xDn:EO:=xGp.fT Tryz.func103 2 0 [] [] lk0 (fun _=>xyR none) xLt (fun _=>xAV) (fun _ p=>(AV.list 1 p))
def xkh {T:Type} (l:LA) (a:List UInt8) (i:Int) (δ:T) (κl:(Int)->T) (κr:(Bool×(Bool)×(Unit))->T):T:=br (decide (i<l.length)) (br (ixI l i) (br (decide (i.toNat<l.length)&&xKH Sh.str (gC l i 0)) (br ((gC l i 0).toStr==a) (κr (true,(true),())) (κl (i64.wrap (i+1)))) δ) δ) (κr (false,false,()))
def xcW (l:LA) (a:List UInt8):StT (Int) (Bool×(Bool)×(Unit)):=fun (i)=>xkh l a i none inL inR
def xrc:=xDn.l 18 0 [] [] Tryz.f102 0 lk0 [0,1,5] [4] [] (q3 (qL 1) pStr qI) xLs (fun (l,a,i,_) _=>(xcW l a,(i),fun p=>(.node p.1 (.leaf .ret [AV.bool p.2.1] []) (.leaf (.exit 0) [.top] [])))) (false,false,()) fun (l,a,_,_) _ (i)=>(((l,a,i,()),()),xkh l a i none)
def xrN {T:Type} (l:LA) (a:List UInt8) (δ:T) (κ:Bool->T):T:=br ((Iter (xcW l a) 0).isSome) (br (((Iter (xcW l a) 0).getD (false,false,())).fst) (κ (((Iter (xcW l a) 0).getD (false,false,())).snd.fst)) (κ (false))) δ
def xuA (l:LA) (a:List UInt8):=xrN l a none some
def xDo:EO:=xDn.f Tryz.func102 18 0 [] [(2,xrc.lp)] (lk1 xrc.ok) (u2 (uL 1) (sEq pStr)) (fun (l,a,_) _=>xrN l a) (fun _ p=>AV.bool p) false
def xgA {T:Type} (a:List UInt8) (i:Int) (κl:(Int)->T) (κr:(Bool×(Bool)×(Unit))->T):T:=br (!(↑(a.getD i.toNat (0:UInt8)).toNat:Int)==95) (κr (true,(false),())) (κl (i64.wrap (i+1)))
def xgz {T:Type} (a:List UInt8) (i:Int) (κl:(Int)->T) (κr:(Bool×(Bool)×(Unit))->T):T:=br (decide ((↑(a.getD i.toNat (0:UInt8)).toNat:Int)>=48)) (br (decide ((↑(a.getD i.toNat (0:UInt8)).toNat:Int)<=57)) (κl (i64.wrap (i+1))) (xgA a i κl κr)) (xgA a i κl κr)
def xiy {T:Type} (a:List UInt8) (i:Int) (δ:T) (κl:(Int)->T) (κr:(Bool×(Bool)×(Unit))->T):T:=br (decide (i<a.length)) (br (decide (0<=i)&&decide (i<a.length)) (br (decide ((↑(a.getD i.toNat (0:UInt8)).toNat:Int)>=97)) (br (decide ((↑(a.getD i.toNat (0:UInt8)).toNat:Int)<=122)) (κl (i64.wrap (i+1))) (xgz a i κl κr)) (xgz a i κl κr)) δ) (κr (false,false,()))
def xce (a:List UInt8):StT (Int) (Bool×(Bool)×(Unit)):=fun (i)=>xiy a i none inL inR
def xpH:=xDo.l 54 0 [] [] Tryz.f76 0 lk0 [0,3] [0,2] [] (q2 pStr qI) xLs (fun (a,i,_) _=>(xce a,(i),fun p=>(.node p.1 (.leaf .ret [AV.str a,AV.bool p.2.1] []) (.leaf (.exit 0) [AV.str a,.top] [])))) (false,false,()) fun (a,_,_) _ (i)=>(((a,i,()),()),xiy a i none)
def xor (a:List UInt8):=xuA [AV.str [(97:UInt8),(100:UInt8),(100:UInt8)],AV.str [(97:UInt8),(102:UInt8),(116:UInt8),(101:UInt8),(114:UInt8)],AV.str [(97:UInt8),(108:UInt8),(108:UInt8)],AV.str [(97:UInt8),(108:UInt8),(116:UInt8),(101:UInt8),(114:UInt8)],AV.str [(97:UInt8),(110:UInt8),(100:UInt8)],AV.str [(97:UInt8),(115:UInt8)],AV.str [(98:UInt8),(101:UInt8),(102:UInt8),(111:UInt8),(114:UInt8),(101:UInt8)],AV.str [(98:UInt8),(101:UInt8),(103:UInt8),(105:UInt8),(110:UInt8)],AV.str [(98:UInt8),(101:UInt8),(116:UInt8),(119:UInt8),(101:UInt8),(101:UInt8),(110:UInt8)],AV.str [(98:UInt8),(111:UInt8),(111:UInt8),(108:UInt8)],AV.str [(98:UInt8),(121:UInt8)],AV.str [(99:UInt8),(104:UInt8),(101:UInt8),(99:UInt8),(107:UInt8)],AV.str [(99:UInt8),(111:UInt8),(97:UInt8),(108:UInt8),(101:UInt8),(115:UInt8),(99:UInt8),(101:UInt8)],AV.str [(99:UInt8),(111:UInt8),(109:UInt8),(109:UInt8),(105:UInt8),(116:UInt8)],AV.str [(99:UInt8),(111:UInt8),(110:UInt8),(116:UInt8),(97:UInt8),(105:UInt8),(110:UInt8),(115:UInt8)],AV.str [(99:UInt8),(111:UInt8),(117:UInt8),(110:UInt8),(116:UInt8)],AV.str [(99:UInt8),(114:UInt8),(101:UInt8),(97:UInt8),(116:UInt8),(101:UInt8)],AV.str [(100:UInt8),(101:UInt8),(102:UInt8),(97:UInt8),(117:UInt8),(108:UInt8),(116:UInt8)],AV.str [(100:UInt8),(101:UInt8),(108:UInt8),(101:UInt8),(116:UInt8),(101:UInt8)],AV.str [(100:UInt8),(101:UInt8),(115:UInt8),(99:UInt8)],AV.str [(100:UInt8),(105:UInt8),(115:UInt8),(116:UInt8),(105:UInt8),(110:UInt8),(99:UInt8),(116:UInt8)],AV.str [(100:UInt8),(114:UInt8),(111:UInt8),(112:UInt8)],AV.str [(100:UInt8),(117:UInt8),(114:UInt8),(105:UInt8),(110:UInt8),(103:UInt8)],AV.str [(101:UInt8),(113:UInt8),(117:UInt8),(97:UInt8),(108:UInt8),(115:UInt8)],AV.str [(101:UInt8),(120:UInt8),(99:UInt8),(101:UInt8),(112:UInt8),(116:UInt8)],AV.str [(102:UInt8),(97:UInt8),(108:UInt8),(115:UInt8),(101:UInt8)],AV.str [(102:UInt8),(105:UInt8),(110:UInt8),(105:UInt8),(115:UInt8),(104:UInt8),(101:UInt8),(100:UInt8),(98:UInt8),(121:UInt8)],AV.str [(102:UInt8),(105:UInt8),(110:UInt8),(105:UInt8),(115:UInt8),(104:UInt8),(101:UInt8),(115:UInt8)],AV.str [(102:UInt8),(111:UInt8),(114:UInt8),(101:UInt8),(105:UInt8),(103:UInt8),(110:UInt8)],AV.str [(102:UInt8),(111:UInt8),(114:UInt8),(101:UInt8),(118:UInt8),(101:UInt8),(114:UInt8)],AV.str [(102:UInt8),(114:UInt8),(111:UInt8),(109:UInt8)],AV.str [(103:UInt8),(114:UInt8),(111:UInt8),(117:UInt8),(112:UInt8)],AV.str [(104:UInt8),(111:UInt8),(108:UInt8),(100:UInt8)],AV.str [(105:UInt8),(102:UInt8)],AV.str [(105:UInt8),(110:UInt8),(115:UInt8),(101:UInt8),(114:UInt8),(116:UInt8)],AV.str [(105:UInt8),(110:UInt8),(116:UInt8)],AV.str [(105:UInt8),(110:UInt8),(116:UInt8),(101:UInt8),(114:UInt8),(115:UInt8),(101:UInt8),(99:UInt8),(116:UInt8)],AV.str [(105:UInt8),(110:UInt8),(116:UInt8),(111:UInt8)],AV.str [(105:UInt8),(115:UInt8)],AV.str [(106:UInt8),(111:UInt8),(105:UInt8),(110:UInt8)],AV.str [(107:UInt8),(101:UInt8),(121:UInt8)],AV.str [(108:UInt8),(101:UInt8),(102:UInt8),(116:UInt8)],AV.str [(108:UInt8),(101:UInt8),(110:UInt8),(103:UInt8),(116:UInt8),(104:UInt8)],AV.str [(108:UInt8),(105:UInt8),(109:UInt8),(105:UInt8),(116:UInt8)],AV.str [(109:UInt8),(97:UInt8),(120:UInt8)],AV.str [(109:UInt8),(101:UInt8),(101:UInt8),(116:UInt8),(115:UInt8)],AV.str [(109:UInt8),(101:UInt8),(116:UInt8),(98:UInt8),(121:UInt8)],AV.str [(109:UInt8),(105:UInt8),(110:UInt8)],AV.str [(110:UInt8),(111:UInt8),(110:UInt8),(115:UInt8),(101:UInt8),(113:UInt8),(117:UInt8),(101:UInt8),(110:UInt8),(99:UInt8),(101:UInt8),(100:UInt8)],AV.str [(110:UInt8),(111:UInt8),(116:UInt8)],AV.str [(110:UInt8),(111:UInt8),(119:UInt8)],AV.str [(110:UInt8),(117:UInt8),(108:UInt8),(108:UInt8)],AV.str [(111:UInt8),(102:UInt8)],AV.str [(111:UInt8),(110:UInt8)],AV.str [(111:UInt8),(114:UInt8)],AV.str [(111:UInt8),(114:UInt8),(100:UInt8),(101:UInt8),(114:UInt8)],AV.str [(111:UInt8),(118:UInt8),(101:UInt8),(114:UInt8),(108:UInt8),(97:UInt8),(112:UInt8),(112:UInt8),(101:UInt8),(100:UInt8),(98:UInt8),(121:UInt8)],AV.str [(111:UInt8),(118:UInt8),(101:UInt8),(114:UInt8),(108:UInt8),(97:UInt8),(112:UInt8),(115:UInt8)],AV.str [(112:UInt8),(114:UInt8),(105:UInt8),(109:UInt8),(97:UInt8),(114:UInt8),(121:UInt8)],AV.str [(112:UInt8),(114:UInt8),(117:UInt8),(110:UInt8),(101:UInt8)],AV.str [(114:UInt8),(101:UInt8),(102:UInt8),(101:UInt8),(114:UInt8),(101:UInt8),(110:UInt8),(99:UInt8),(101:UInt8),(115:UInt8)],AV.str [(114:UInt8),(101:UInt8),(108:UInt8),(101:UInt8),(97:UInt8),(115:UInt8),(101:UInt8)],AV.str [(114:UInt8),(101:UInt8),(110:UInt8),(97:UInt8),(109:UInt8),(101:UInt8)],AV.str [(114:UInt8),(101:UInt8),(116:UInt8),(97:UInt8),(105:UInt8),(110:UInt8)],AV.str [(114:UInt8),(111:UInt8),(108:UInt8),(108:UInt8),(98:UInt8),(97:UInt8),(99:UInt8),(107:UInt8)],AV.str [(115:UInt8),(101:UInt8),(108:UInt8),(101:UInt8),(99:UInt8),(116:UInt8)],AV.str [(115:UInt8),(101:UInt8),(113:UInt8),(117:UInt8),(101:UInt8),(110:UInt8),(99:UInt8),(101:UInt8),(100:UInt8)],AV.str [(115:UInt8),(101:UInt8),(116:UInt8)],AV.str [(115:UInt8),(116:UInt8),(97:UInt8),(114:UInt8),(116:UInt8),(101:UInt8),(100:UInt8),(98:UInt8),(121:UInt8)],AV.str [(115:UInt8),(116:UInt8),(97:UInt8),(114:UInt8),(116:UInt8),(115:UInt8)],AV.str [(115:UInt8),(117:UInt8),(109:UInt8)],AV.str [(115:UInt8),(121:UInt8),(115:UInt8),(116:UInt8),(101:UInt8),(109:UInt8)],AV.str [(115:UInt8),(121:UInt8),(115:UInt8),(116:UInt8),(101:UInt8),(109:UInt8),(102:UInt8),(114:UInt8),(111:UInt8),(109:UInt8)],AV.str [(115:UInt8),(121:UInt8),(115:UInt8),(116:UInt8),(101:UInt8),(109:UInt8),(116:UInt8),(111:UInt8)],AV.str [(116:UInt8),(97:UInt8),(98:UInt8),(108:UInt8),(101:UInt8)],AV.str [(116:UInt8),(101:UInt8),(120:UInt8),(116:UInt8)],AV.str [(116:UInt8),(111:UInt8)],AV.str [(116:UInt8),(114:UInt8),(117:UInt8),(101:UInt8)],AV.str [(116:UInt8),(120:UInt8)],AV.str [(117:UInt8),(110:UInt8),(100:UInt8),(101:UInt8),(114:UInt8)],AV.str [(117:UInt8),(110:UInt8),(105:UInt8),(111:UInt8),(110:UInt8)],AV.str [(117:UInt8),(112:UInt8),(100:UInt8),(97:UInt8),(116:UInt8),(101:UInt8)],AV.str [(118:UInt8),(97:UInt8),(108:UInt8),(105:UInt8),(100:UInt8)],AV.str [(118:UInt8),(97:UInt8),(108:UInt8),(105:UInt8),(100:UInt8),(102:UInt8),(114:UInt8),(111:UInt8),(109:UInt8)],AV.str [(118:UInt8),(97:UInt8),(108:UInt8),(105:UInt8),(100:UInt8),(116:UInt8),(111:UInt8)],AV.str [(118:UInt8),(97:UInt8),(108:UInt8),(117:UInt8),(101:UInt8),(115:UInt8)],AV.str [(119:UInt8),(104:UInt8),(101:UInt8),(114:UInt8),(101:UInt8)]] a
def xm3 {T:Type} (a:List UInt8) (δ:T) (κ:Bool->T):T:=br ((Iter (xce a) 0).isSome) (br (((Iter (xce a) 0).getD (false,false,())).fst) (κ (((Iter (xce a) 0).getD (false,false,())).snd.fst)) (br ((xor a).isSome) (κ (!(xor a).getD false)) δ)) δ
def xpI {T:Type} (a:List UInt8) (δ:T) (κ:Bool->T):T:=br (a==[]) (κ (false)) (br (decide ((↑a.length:Int)>24)) (κ (false)) (br (decide (0<(↑a.length:Int))) (br (decide ((↑(a.getD 0 (0:UInt8)).toNat:Int)>=48)) (br (decide (0<(↑a.length:Int))) (br (decide ((↑(a.getD 0 (0:UInt8)).toNat:Int)<=57)) (κ (false)) (xm3 a δ κ)) δ) (xm3 a δ κ)) δ))
def xfx (a:List UInt8):=xpI a none some
def xy0:EO:=xDo.f Tryz.func76 54 0 [] [(4,xpH.lp)] (lk1 xpH.ok) (u1 (sEq pStr)) (fun (a,_) _=>xpI a) (fun _ p=>AV.bool p) false
def xhu {T:Type} (b:Nat) (i:Int) (d:List UInt8) (c e f g a:LA) (δ:T) (κl:(Nat×Int×List UInt8×LA×LA×LA×LA×LA)->T) (κr:(Nat×LA)->T):T:=br (decide (i<c.length)) (br (ixI c i) (br (ixS c i (Sh.int .i64) 1) (br (rmB b a 1 8) (κl (b+1,i64.wrap (i+1),d,c,e,f,g,a++[AV.int .i64 (gC c i 1).toInt])) δ) δ) δ) (κr (b,a))
def xcM:StT (Nat×Int×List UInt8×LA×LA×LA×LA×LA) (Nat×LA):=fun (b,i,c,d,e,f,g,a)=>xhu b i c d e f g a none inL inR
def xoF:=xy0.l 23 0 [] [] Tryz.f51 0 lk0 [1,3,4] [3] [(3,1,3)] (q3 (xLE 0 0 0 0) (xLD 1 0 0) qI) (q2 (qB 0 5 27 (q1 (xLF (q5 pStr (qL 3) (qL 1) (qL 2) (qL 7))))) (qB 0 1 3 xLu)) (fun (_,b,i,_) (((c,d,e,f,g,_),_),a,_)=>(xcM,(b,i,c,d,e,f,g,a),fun p=>(.leaf (.exit 0) [AV.osl 0 0 0 p.1] [bF 0 1 3 p.2]))) (0,[]) fun _ _ (b,i,c,d,e,f,g,a)=>((((),b,i,()),(((c,d,e,f,g,()),()),a,())),xhu b i c d e f g a none)
def xm2 (e:List UInt8) (b a c d:LA):=Iter xcM (0,0,e,b,a,c,d,[])
def xm1 (e:List UInt8) (b a c d:LA):=(xm2 e b a c d).getD (0,[])
def xmx (e:List UInt8) (b a c d:LA):=(xm1 e b a c d).snd
def xm0 (e:List UInt8) (b a c d:LA):=(xm1 e b a c d).fst
def xoq {T:Type} (e:List UInt8) (b a c d:LA) (δ:T) (κ:LA->T):T:=br ((xm2 e b a c d).isSome) (br (decide (0+xm0 e b a c d<=(xmx e b a c d).length)&&true) (κ (List.take (xm0 e b a c d) (List.drop 0 (xmx e b a c d)))) δ) δ
def xgn (e:List UInt8) (b a c d:LA):=xoq e b a c d none some
def xyQ:LA->Option (Bool×AV):=fnO (u1 (xLI (u5 (sEq pStr) (uL 3) (uL 1) (uL 2) (uL 7)))) (fun ((e,b,a,c,d,_),_) _=>xoq e b a c d) (fun _ p=>AV.list 1 p) []
theorem xr9:OcOk P0 xLp 51 xyQ:=fnC xy0.ok Tryz.func51 23 0 [] [(3,xoF.lp)] (lk1 xoF.ok)
def xDp:EO:=xy0.w xr9
def xiw {T:Type} (b:List UInt8) (i:Int) (c:List UInt8) (a d e f:LA) (δ:T) (κl:(Int×List UInt8×LA×LA×LA×LA)->T) (κr:(Bool×(Int)×(Unit))->T):T:=br (decide (i<a.length)) (br (ixI a i) (br (decide (i.toNat<a.length)&&xKH Sh.str (gC a i 0)) (br ((gC a i 0).toStr==b) (κr (true,(i),())) (κl (i64.wrap (i+1),c,a,d,e,f))) δ) δ) (κr (false,0,()))
def xc6 (a:List UInt8):StT (Int×List UInt8×LA×LA×LA×LA) (Bool×(Int)×(Unit)):=fun (i,b,c,d,e,f)=>xiw a i b c d e f none inL inR
def xpF:=xDp.l 22 0 [] [] Tryz.f104 0 lk0 [1,2,5] [4] [] (q3 pStr (xLE 0 0 0 0) qI) (q1 (qB 0 5 27 (q1 (xLF (q5 pStr (qL 3) (qL 1) (qL 2) (qL 7)))))) (fun (a,_,i,_) (((b,c,d,e,f,_),_),_)=>(xc6 a,(i,b,c,d,e,f),fun p=>(.node p.1 (.leaf .ret [AV.int .i64 p.2.1] []) (.leaf (.exit 0) [.top] [])))) (false,0,()) fun (a,_,_,_) _ (i,b,c,d,e,f)=>(((a,(),i,()),(((b,c,d,e,f,()),()),())),xiw a i b c d e f none)
def xoo (e:List UInt8) (b a c d:LA) (f:List UInt8):=Iter (xc6 f) (0,e,b,a,c,d)
def xon (e:List UInt8) (b a c d:LA) (f:List UInt8):=(xoo e b a c d f).getD (false,0,())
def xpG {T:Type} (e:List UInt8) (b a c d:LA) (f:List UInt8) (δ:T) (κ:Int->T):T:=br ((xoo e b a c d f).isSome) (br ((xon e b a c d f).fst) (κ ((xon e b a c d f).snd.fst)) (κ ((-1)))) δ
def xoY (e:List UInt8) (b a c d:LA) (f:List UInt8):=xpG e b a c d f none some
def xHI:EO:=xDp.f Tryz.func104 22 0 [] [(2,xpF.lp)] (lk1 xpF.ok) (u2 (xLI (u5 (sEq pStr) (uL 3) (uL 1) (uL 2) (uL 7))) (sEq pStr)) (fun ((e,b,a,c,d,_),g,_) _=>xpG e b a c d g) (fun _ p=>AV.int .i64 p) 0
def xiZ (e:List UInt8) (a b c d:LA) (i:Int):Bool:=(br (decide (i>=0)) ((decide (i<a.length))) ((false)))
def xv6 {T:Type} (e:List UInt8) (a b c d:LA) (i:Int) (δ:T) (κ:Bool->T):T:=br (decide (i>=0)) (κ (decide (i<a.length))) (κ (false))
def xDq:EO:=xHI.fT Tryz.func105 14 0 [] [] lk0 (fun ((e,b,a,c,d,_),i,_)=>xv6 e b a c d i none) (u2 (xLI (u5 (sEq pStr) (uL 3) (uL 1) (uL 2) (uL 7))) uI) (fun ((e,b,a,c,d,_),i,_)=>xiZ e b a c d i) (fun _ p=>(AV.bool p))
def xf0 {T:Type} (i:Int) (b:List UInt8) (a c d e:LA) (δ:T) (κl:(Int×List UInt8×LA×LA×LA×LA)->T) (κr:(Bool×(Int)×(Unit))->T):T:=br (decide (i<a.length)) (br (ixI a i) (br (ixT a i 3 [Sh.str,Sh.int .i64,Sh.bool] 0) (br ((xfx (gC a i 0).toStr).isSome) (br (!(xfx (gC a i 0).toStr).getD false) (κr (true,(1),())) (br (decide ((gC a i 1).toInt<1)) (κr (true,(7),())) (br (decide ((gC a i 1).toInt>3)) (κr (true,(7),())) (br ((xoY b a c d e (gC a i 0).toStr).isSome) (br (decide ((xoY b a c d e (gC a i 0).toStr).getD 0<i)) (κr (true,(10),())) (κl (i64.wrap (i+1),b,a,c,d,e))) δ)))) δ) δ) δ) (κr (false,0,()))
def xb0:StT (Int×List UInt8×LA×LA×LA×LA) (Bool×(Int)×(Unit)):=fun (i,a,b,c,d,e)=>xf0 i a b c d e none inL inR
def xmh:=xDq.l 45 0 [] [] Tryz.f77 0 lk0 [1,3] [2] [] (q2 (xLE 0 0 0 0) qI) (q1 (qB 0 5 27 (q1 (xLF (q5 pStr (qL 3) (qL 1) (qL 2) (qL 7)))))) (fun (_,i,_) (((a,b,c,d,e,_),_),_)=>(xb0,(i,a,b,c,d,e),fun p=>(.node p.1 (.leaf .ret [AV.int .i64 p.2.1] []) (.leaf (.exit 0) [.top] [])))) (false,0,()) fun _ _ (i,a,b,c,d,e)=>((((),i,()),(((a,b,c,d,e,()),()),())),xf0 i a b c d e none)
def xkI (e:List UInt8) (b a c d:LA):=Iter xb0 (0,e,b,a,c,d)
def xkH (e:List UInt8) (b a c d:LA):=(xkI e b a c d).getD (false,0,())
def xlZ {T:Type} (e:List UInt8) (a b c d:LA) (δ:T) (κ:Int->T):T:=br (decide ((↑a.length:Int)<1)) (κ (13)) (br (decide ((↑a.length:Int)>12)) (κ (13)) (br ((xkI e a b c d).isSome) (br ((xkH e a b c d).fst) (κ ((xkH e a b c d).snd.fst)) (κ (0))) δ))
def xfJ (e:List UInt8) (b a c d:LA):=xlZ e b a c d none some
def xDr:EO:=xDq.f Tryz.func77 45 0 [] [(4,xmh.lp)] (lk1 xmh.ok) (u1 (xLI (u5 (sEq pStr) (uL 3) (uL 1) (uL 2) (uL 7)))) (fun ((e,b,a,c,d,_),_) _=>xlZ e b a c d) (fun _ p=>AV.int .i64 p) 0
def xej (i:Int) (a:LA):=ixI a i
def xek (i:Int) (a:LA):=decide (i.toNat<a.length)&&xKH (Sh.int .i64) (gC a i 0)
def xbA (i:Int) (a:LA):=(gC a i 0).toInt
def xdO {T:Type} (i:Int) (c:List UInt8) (b a d e:LA) (δ:T) (κl:(Int×List UInt8×LA×LA×LA×LA)->T) (κr:(Bool×(Int)×(Unit))->T):T:=br (xej i a) (br (xek i a) (br (decide (0<=xbA i a)&&decide (xbA i a<b.length)) (br (decide ((xbA i a).toNat<b.length)&&xKH Sh.bool ((b.getD (xbA i a).toNat .top).cells.getD 2 .top)) (br (((b.getD (xbA i a).toNat .top).cells.getD 2 .top).toBool) (κr (true,(12),())) (κl (i64.wrap (i+1),c,b,a,d,e))) δ) δ) δ) δ
def xfb {T:Type} (i:Int) (b:List UInt8) (c a d e:LA) (δ:T) (κl:(Int×List UInt8×LA×LA×LA×LA)->T) (κr:(Bool×(Int)×(Unit))->T):T:=br (decide (i<a.length)) (br (xej i a) (br (xek i a) (br (!xiZ b c a d e (xbA i a)) (κr (true,(25),())) (br (decide (i>0)) (br (xej i a) (br (xek i a) (br (decide (0<=i64.wrap (i - 1))&&decide (i64.wrap (i - 1)<(↑a.length:Int))) (br (decide ((i64.wrap (i - 1)).toNat<a.length)&&xKH (Sh.int .i64) ((a.getD (i64.wrap (i - 1)).toNat .top).cells.getD 0 .top)) (br (decide (xbA i a<=((a.getD (i64.wrap (i - 1)).toNat .top).cells.getD 0 .top).toInt)) (κr (true,(25),())) (xdO i b c a d e δ κl κr)) δ) δ) δ) δ) (xdO i b c a d e δ κl κr))) δ) δ) (κr (false,0,()))
def xbR:StT (Int×List UInt8×LA×LA×LA×LA) (Bool×(Int)×(Unit)):=fun (i,a,b,c,d,e)=>xfb i a b c d e none inL inR
def xqj:=xDr.l 51 0 [] [] Tryz.f78 0 lk0 [1,3] [2] [] (q2 (xLE 0 0 0 0) qI) (q1 (qB 0 5 27 (q1 (xLF (q5 pStr (qL 3) (qL 1) (qL 2) (qL 7)))))) (fun (_,i,_) (((a,b,c,d,e,_),_),_)=>(xbR,(i,a,b,c,d,e),fun p=>(.node p.1 (.leaf .ret [AV.int .i64 p.2.1] []) (.leaf (.exit 0) [.top] [])))) (false,0,()) fun _ _ (i,a,b,c,d,e)=>((((),i,()),(((a,b,c,d,e,()),()),())),xfb i a b c d e none)
def xpK (e:List UInt8) (b a c d:LA):=Iter xbR (0,e,b,a,c,d)
def xpJ (e:List UInt8) (b a c d:LA):=(xpK e b a c d).getD (false,0,())
def xqN {T:Type} (e:List UInt8) (b a c d:LA) (δ:T) (κ:Int->T):T:=br ((↑a.length:Int)==0) (κ (25)) (br ((xpK e b a c d).isSome) (br ((xpJ e b a c d).fst) (κ ((xpJ e b a c d).snd.fst)) (κ (0))) δ)
def xnV (e:List UInt8) (b a c d:LA):=xqN e b a c d none some
def xy1:EO:=xDr.f Tryz.func78 51 0 [] [(4,xqj.lp)] (lk1 xqj.ok) (u1 (xLI (u5 (sEq pStr) (uL 3) (uL 1) (uL 2) (uL 7)))) (fun ((e,b,a,c,d,_),_) _=>xqN e b a c d) (fun _ p=>AV.int .i64 p) 0
def xf1 {T:Type} (i k:Int) (b:List UInt8) (c d e f a:LA) (g:List UInt8) (δ:T) (κl:(Int×List UInt8×LA×LA×LA×LA×LA×List UInt8)->T) (κr:(Bool×(Int×List UInt8×LA×LA×LA×LA×LA×List UInt8)×(List UInt8×LA×LA×LA×LA×LA×List UInt8))->T):T:=br (decide (k<i)) (br (ixI a k) (br (ixS a k (Sh.int .i64) 0) (br (ixI a i) (br (ixS a i (Sh.int .i64) 0) (br ((gC a k 0).toInt==(gC a i 0).toInt) (κr (true,(25,b,c,d,e,f,a,g),([],[],[],[],[],[],[]))) (κl (i64.wrap (k+1),b,c,d,e,f,a,g))) δ) δ) δ) δ) (κr (false,(0,[],[],[],[],[],[],[]),(b,c,d,e,f,a,g)))
def xb1 (i:Int):StT (Int×List UInt8×LA×LA×LA×LA×LA×List UInt8) (Bool×(Int×List UInt8×LA×LA×LA×LA×LA×List UInt8)×(List UInt8×LA×LA×LA×LA×LA×List UInt8)):=fun (k,a,b,c,d,e,f,g)=>xf1 i k a b c d e f g none inL inR
def xfs:=xy1.l 46 0 [] [] Tryz.f106 1 lk0 [2,3,5,6] [2,3,4,5] [] (q4 (xLE 0 0 0 0) (xLE 1 0 0 0) qI qI) (q2 (qB 0 5 27 (q1 (xLF (q5 pStr (qL 3) (qL 1) (qL 2) (qL 7))))) (qB 0 2 149 (q1 (xLF (q2 (qL 1) pStr))))) (fun (_,_,i,k,_) (((a,b,c,d,e,_),_),((f,g,_),_),_)=>(xb1 i,(k,a,b,c,d,e,f,g),fun p=>(.node p.1 (.leaf .ret [AV.own 0 0 0 0,AV.own 1 0 0 0,AV.int .i64 p.2.1.1,AV.int .i64 i] [bF 0 5 27 [AV.agg [AV.str p.2.1.2.1,AV.list 3 p.2.1.2.2.1,AV.list 1 p.2.1.2.2.2.1,AV.list 2 p.2.1.2.2.2.2.1,AV.list 7 p.2.1.2.2.2.2.2.1]],bF 0 2 149 [AV.agg [AV.list 1 p.2.1.2.2.2.2.2.2.1,AV.str p.2.1.2.2.2.2.2.2.2]]]) (.leaf (.exit 2) [AV.own 0 0 0 0,AV.own 1 0 0 0,.top,AV.int .i64 i] [bF 0 5 27 [AV.agg [AV.str p.2.2.1,AV.list 3 p.2.2.2.1,AV.list 1 p.2.2.2.2.1,AV.list 2 p.2.2.2.2.2.1,AV.list 7 p.2.2.2.2.2.2.1]],bF 0 2 149 [AV.agg [AV.list 1 p.2.2.2.2.2.2.2.1,AV.str p.2.2.2.2.2.2.2.2]]])))) (false,(0,[],[],[],[],[],[],[]),([],[],[],[],[],[],[])) fun (_,_,i,_,_) _ (k,a,b,c,d,e,f,g)=>((((),(),i,k,()),(((a,b,c,d,e,()),()),((f,g,()),()),())),xf1 i k a b c d e f g none)
def xin (i:Int) (a:List UInt8) (b c d e f:LA) (g:List UInt8):=Iter (xb1 i) (0,a,b,c,d,e,f,g)
def xim (i:Int) (a:List UInt8) (b c d e f:LA) (g:List UInt8):=(xin i a b c d e f g).getD (false,(0,[],[],[],[],[],[],[]),[],[],[],[],[],[],[])
def xil (i:Int) (a:List UInt8) (b c d e f:LA) (g:List UInt8):=(xim i a b c d e f g).snd
def xik (i:Int) (a:List UInt8) (b c d e f:LA) (g:List UInt8):=(xil i a b c d e f g).snd
def xij (i:Int) (a:List UInt8) (b c d e f:LA) (g:List UInt8):=(xik i a b c d e f g).snd
def xii (i:Int) (a:List UInt8) (b c d e f:LA) (g:List UInt8):=(xij i a b c d e f g).snd
def xih (i:Int) (a:List UInt8) (b c d e f:LA) (g:List UInt8):=(xii i a b c d e f g).snd
def xig (i:Int) (a:List UInt8) (b c d e f:LA) (g:List UInt8):=(xih i a b c d e f g).snd
def xif (i:Int) (a:List UInt8) (b c d e f:LA) (g:List UInt8):=(xig i a b c d e f g).snd
def xd8 {T:Type} (i:Int) (b:List UInt8) (c d e f a:LA) (g:List UInt8) (δ:T) (κl:(Int×List UInt8×LA×LA×LA×LA×LA×List UInt8)->T) (κr:(Bool×(Int)×(Unit))->T):T:=br (decide (i<a.length)) (br (ixI a i) (br (ixS a i (Sh.int .i64) 0) (br (!xiZ b c d e f (gC a i 0).toInt) (κr (true,(25),())) (br ((xin i b c d e f a g).isSome) (br ((xim i b c d e f a g).fst) (κr (true,((xil i b c d e f a g).fst.fst),())) (κl (i64.wrap (i+1),(xik i b c d e f a g).fst,(xij i b c d e f a g).fst,(xii i b c d e f a g).fst,(xih i b c d e f a g).fst,(xig i b c d e f a g).fst,(xif i b c d e f a g).fst,(xif i b c d e f a g).snd))) δ)) δ) δ) (κr (false,0,()))
def xbw:StT (Int×List UInt8×LA×LA×LA×LA×LA×List UInt8) (Bool×(Int)×(Unit)):=fun (i,a,b,c,d,e,f,g)=>xd8 i a b c d e f g none inL inR
def xmi:=xy1.l 46 0 [] [(11,xfs.lp)] Tryz.f106 0 (lk1 xfs.ok) [2,3,5] [4] [] (q3 (xLE 0 0 0 0) (xLE 1 0 0 0) qI) (q2 (qB 0 5 27 (q1 (xLF (q5 pStr (qL 3) (qL 1) (qL 2) (qL 7))))) (qB 0 2 149 (q1 (xLF (q2 (qL 1) pStr))))) (fun (_,_,i,_) (((a,b,c,d,e,_),_),((f,g,_),_),_)=>(xbw,(i,a,b,c,d,e,f,g),fun p=>(.node p.1 (.leaf .ret [AV.int .i64 p.2.1] []) (.leaf (.exit 0) [.top] [])))) (false,0,()) fun _ _ (i,a,b,c,d,e,f,g)=>((((),(),i,()),(((a,b,c,d,e,()),()),((f,g,()),()),())),xd8 i a b c d e f g none)
def xkK (e:List UInt8) (b a c d f:LA) (g:List UInt8):=Iter xbw (0,e,b,a,c,d,f,g)
def xkJ (e:List UInt8) (b a c d f:LA) (g:List UInt8):=(xkK e b a c d f g).getD (false,0,())
def xlx {T:Type} (g:List UInt8) (c a d e f:LA) (b:List UInt8) (δ:T) (κ:Int->T):T:=br ((xfx b).isSome) (br (!(xfx b).getD false) (κ (1)) (br ((↑f.length:Int)==0) (κ (25)) (br ((xkK g c a d e f b).isSome) (br ((xkJ g c a d e f b).fst) (κ ((xkJ g c a d e f b).snd.fst)) (κ (0))) δ))) δ
def xh0 (e:List UInt8) (b a c d f:LA) (g:List UInt8):=xlx e b a c d f g none some
def xy2:EO:=xy1.f Tryz.func106 46 0 [] [(11,xfs.lp),(6,xmi.lp)] (lks (lkC xmi.ok (lkC xfs.ok lkN))) (u2 (xLI (u5 (sEq pStr) (uL 3) (uL 1) (uL 2) (uL 7))) (xLI (u2 (uL 1) (sEq pStr)))) (fun ((e,b,a,c,d,_),(g,h,_),_) _=>xlx e b a c d g h) (fun _ p=>AV.int .i64 p) 0
def xdY {T:Type} (i:Int) (b:List UInt8) (c d a e:LA) (δ:T) (κl:(Int×List UInt8×LA×LA×LA×LA)->T) (κr:(Bool×(Int×List UInt8×LA×LA×LA×LA)×(List UInt8×LA×LA×LA×LA))->T):T:=br (decide (i<a.length)) (br (ixI a i) (br (ixT a i 2 [Sh.list 1,Sh.str] 0) (br ((xh0 b c d a e (gC a i 0).toList (gC a i 1).toStr).isSome) (br ((xh0 b c d a e (gC a i 0).toList (gC a i 1).toStr).getD 0 != 0) (κr (true,((xh0 b c d a e (gC a i 0).toList (gC a i 1).toStr).getD 0,b,c,d,a,e),([],[],[],[],[]))) (κl (i64.wrap (i+1),b,c,d,a,e))) δ) δ) δ) (κr (false,(0,[],[],[],[],[]),(b,c,d,a,e)))
def xbk:StT (Int×List UInt8×LA×LA×LA×LA) (Bool×(Int×List UInt8×LA×LA×LA×LA)×(List UInt8×LA×LA×LA×LA)):=fun (i,a,b,c,d,e)=>xdY i a b c d e none inL inR
def xfy:=xy2.l 60 0 [] [] Tryz.f79 0 lk0 [1,3] [1,2] [] (q2 (xLE 0 0 0 0) qI) (q1 (qB 0 5 27 (q1 (xLF (q5 pStr (qL 3) (qL 1) (qL 2) (qL 7)))))) (fun (_,i,_) (((a,b,c,d,e,_),_),_)=>(xbk,(i,a,b,c,d,e),fun p=>(.node p.1 (.leaf .ret [AV.own 0 0 0 0,AV.int .i64 p.2.1.1] [bF 0 5 27 [AV.agg [AV.str p.2.1.2.1,AV.list 3 p.2.1.2.2.1,AV.list 1 p.2.1.2.2.2.1,AV.list 2 p.2.1.2.2.2.2.1,AV.list 7 p.2.1.2.2.2.2.2]]]) (.leaf (.exit 0) [AV.own 0 0 0 0,.top] [bF 0 5 27 [AV.agg [AV.str p.2.2.1,AV.list 3 p.2.2.2.1,AV.list 1 p.2.2.2.2.1,AV.list 2 p.2.2.2.2.2.1,AV.list 7 p.2.2.2.2.2.2]]])))) (false,(0,[],[],[],[],[]),([],[],[],[],[])) fun _ _ (i,a,b,c,d,e)=>((((),i,()),(((a,b,c,d,e,()),()),())),xdY i a b c d e none)
def xfC (i:Int) (b:List UInt8) (c d e a:LA):=xqJ (gC a i 0).toInt (gC a i 1).toInt (gC a i 2).toInt (gC a i 3).toInt (gC a i 4).toStr (gC a i 5).toStr (gC a i 6).toList ((xgn b c d e a).getD [])
def xfB (i:Int) (a:List UInt8) (b c d e:LA):=(xfC i a b c d e).getD (0,0)
def xfz (i:Int) (a:List UInt8) (b c d e:LA):=(xfB i a b c d e).fst
def xfA (i:Int) (a:List UInt8) (b c d e:LA):=(xfB i a b c d e).snd
def xdZ {T:Type} (i:Int) (b:List UInt8) (c d e a:LA) (δ:T) (κl:(Int×List UInt8×LA×LA×LA×LA)->T) (κr:(Bool×(Int)×(Unit))->T):T:=br (decide (i<a.length)) (br (ixI a i) (br (ixT a i 7 [Sh.int .i64,Sh.int .i64,Sh.int .i64,Sh.int .i64,Sh.str,Sh.str,Sh.list 7] 0) (br ((xgn b c d e a).isSome) (br ((xfC i b c d e a).isSome) (br (xfA i b c d e a != 0) (κr (true,(xfA i b c d e a),())) (br (xfz i b c d e a != 3) (br (xfz i b c d e a != 0) (κr (true,(7),())) (κl (i64.wrap (i+1),b,c,d,e,a))) (κl (i64.wrap (i+1),b,c,d,e,a)))) δ) δ) δ) δ) (κr (false,0,()))
def xbl:StT (Int×List UInt8×LA×LA×LA×LA) (Bool×(Int)×(Unit)):=fun (i,a,b,c,d,e)=>xdZ i a b c d e none inL inR
def xjA:=xy2.l 60 0 [] [(4,xfy.lp)] Tryz.f79 1 lk0 [1,5] [2] [] (q2 (xLE 0 0 0 0) qI) (q1 (qB 0 5 27 (q1 (xLF (q5 pStr (qL 3) (qL 1) (qL 2) (qL 7)))))) (fun (_,i,_) (((a,b,c,d,e,_),_),_)=>(xbl,(i,a,b,c,d,e),fun p=>(.node p.1 (.leaf .ret [AV.int .i64 p.2.1] []) (.leaf (.exit 2) [.top] [])))) (false,0,()) fun _ _ (i,a,b,c,d,e)=>((((),i,()),(((a,b,c,d,e,()),()),())),xdZ i a b c d e none)
def xhF (e:List UInt8) (b a c d:LA):=Iter xbk (0,e,b,a,c,d)
def xhE (e:List UInt8) (b a c d:LA):=(xhF e b a c d).getD (false,(0,[],[],[],[],[]),[],[],[],[],[])
def xhD (e:List UInt8) (b a c d:LA):=(xhE e b a c d).snd
def xhC (e:List UInt8) (b a c d:LA):=(xhD e b a c d).snd
def xhB (e:List UInt8) (b a c d:LA):=(xhC e b a c d).snd
def xhA (e:List UInt8) (b a c d:LA):=(xhB e b a c d).snd
def xhz (e:List UInt8) (b a c d:LA):=(xhA e b a c d).snd
def xhy (e:List UInt8) (b a c d:LA):=(xhz e b a c d).snd
def xhw (e:List UInt8) (b a c d:LA):=Iter xbl (0,(xhC e b a c d).fst,(xhB e b a c d).fst,(xhA e b a c d).fst,(xhz e b a c d).fst,xhy e b a c d)
def xhv (e:List UInt8) (b a c d:LA):=(xhw e b a c d).getD (false,0,())
def xie {T:Type} (e:List UInt8) (c a b d:LA) (δ:T) (κ:Int->T):T:=br (decide ((↑b.length:Int)>4)) (κ (5)) (br ((xhF e c a b d).isSome) (br ((xhE e c a b d).fst) (κ ((xhD e c a b d).fst.fst)) (br (decide ((↑(xhy e c a b d).length:Int)>4)) (κ (5)) (br ((xhw e c a b d).isSome) (br ((xhv e c a b d).fst) (κ ((xhv e c a b d).snd.fst)) (κ (0))) δ))) δ)
def xdq (e:List UInt8) (b a c d:LA):=xie e b a c d none some
def xGq:EO:=xy2.f Tryz.func79 60 0 [] [(4,xfy.lp),(12,xjA.lp)] (lks (lkC xfy.ok (lkC xjA.ok lkN))) (u1 (xLI (u5 (sEq pStr) (uL 3) (uL 1) (uL 2) (uL 7)))) (fun ((e,b,a,c,d,_),_) _=>xie e b a c d) (fun _ p=>AV.int .i64 p) 0
def xom {T:Type} (e:List UInt8) (b a c d:LA) (δ:T) (κ:Int->T):T:=br ((xfx e).isSome) (br (!(xfx e).getD false) (κ (1)) (br ((xfJ e b a c d).isSome) (br ((xfJ e b a c d).getD 0==0) (br ((xnV e b a c d).isSome) (br ((xnV e b a c d).getD 0==0) (br ((xdq e b a c d).isSome) (κ ((xdq e b a c d).getD 0)) δ) (κ ((xnV e b a c d).getD 0))) δ) (br ((xfJ e b a c d).getD 0==0) (br ((xdq e b a c d).isSome) (κ ((xdq e b a c d).getD 0)) δ) (κ ((xfJ e b a c d).getD 0)))) δ)) δ
def xnq (e:List UInt8) (b a c d:LA):=xom e b a c d none some
def xyP:LA->Option (Bool×AV):=fnO (u1 (xLI (u5 (sEq pStr) (uL 3) (uL 1) (uL 2) (uL 7)))) (fun ((e,b,a,c,d,_),_) _=>xom e b a c d) (fun _ p=>AV.int .i64 p) 0
theorem xyO:OcOk P0 xLp 49 xyP:=fnC xGq.ok Tryz.func49 19 0 [] [] lk0
def xHM:EO:=xHA.w xr8
def xHN:EO:=xHM.w xyO
def xDt:EO:=xHN.w xr9
def xhq (a l:LA) (i:Int):=(xkE a (gC l i 0).toInt).getD (0,0,[])
def xhp (a l:LA) (i:Int):=(xhq a l i).snd
def xit {T:Type} (c l:LA) (b:Nat) (i:Int) (a:LA) (δ:T) (κl:(Nat×Int×LA)->T) (κr:(Nat×LA)->T):T:=br (decide (i<l.length)) (br (ixI l i) (br (ixS l i (Sh.int .i64) 0) (br ((xkE c (gC l i 0).toInt).isSome) (br (rmB b a 1 32) (κl (b+1,i64.wrap (i+1),a++[AV.agg [AV.int .i64 (xhq c l i).fst,AV.int .i64 (xhp c l i).fst,AV.str (xhp c l i).snd]])) δ) δ) δ) δ) (κr (b,a))
def xc2 (c l:LA):StT (Nat×Int×LA) (Nat×LA):=fun (b,i,a)=>xit c l b i a none inL inR
def xpu:=xDt.l 24 0 [] [] Tryz.f48 0 lk0 [0,1,5,6] [5] [(5,3,64)] (q4 (qL 3) (qL 1) (xLD 0 0 0) qI) (q1 (qB 0 3 64 xLu)) (fun (c,l,b,i,_) (a,_)=>(xc2 c l,(b,i,a),fun p=>(.leaf (.exit 0) [AV.osl 0 0 0 p.1] [bF 0 3 64 p.2]))) (0,[]) fun (c,l,_,_,_) _ (b,i,a)=>(((c,l,b,i,()),(a,())),xit c l b i a none)
def xoh (a l:LA):=(Iter (xc2 a l) (0,0,[])).getD (0,[])
def xof (a l:LA):=(xoh a l).fst
def xog (a l:LA):=(xoh a l).snd
def xpv {T:Type} (a l:LA) (δ:T) (κ:LA->T):T:=br ((Iter (xc2 a l) (0,0,[])).isSome) (br (decide (0+xof a l<=(xog a l).length)&&true) (κ (List.take (xof a l) (List.drop 0 (xog a l)))) δ) δ
def xoX (a l:LA):=xpv a l none some
def xDb:EO:=xDt.f Tryz.func48 24 0 [] [(3,xpu.lp)] (lk1 xpu.ok) (u2 (uL 3) (uL 1)) (fun (a,l,_) _=>xpv a l) (fun _ p=>AV.list 3 p) []
def xho (a:LA) (i:Int):=ixI a i
def xkF (a:LA) (i:Int):=xj5 (gC a i 0).toInt (gC a i 1).toInt (gC a i 2).toStr
def xis {T:Type} (a b:LA) (i:Int) (δ:T) (κl:(Int)->T) (κr:(Bool×(Bool)×(Unit))->T):T:=br (decide (i<a.length)) (br (xho a i) (br (ixT a i 3 [Sh.int .i64,Sh.int .i64,Sh.str] 0) (br ((xkF a i).isSome) (br (!(xkF a i).getD false) (κr (true,(false),())) (br (xho a i) (br (ixS a i (Sh.int .i64) 0) (br ((gC a i 0).toInt != 0) (br (xho a i) (br (ixS a i (Sh.int .i64) 0) (br (ixI b i) (br (ixS b i (Sh.int .i64) 0) (br ((gC a i 0).toInt != (gC b i 0).toInt) (κr (true,(false),())) (κl (i64.wrap (i+1)))) δ) δ) δ) δ) (κl (i64.wrap (i+1)))) δ) δ)) δ) δ) δ) (κr (false,false,()))
def xb7 (b a:LA):StT (Int) (Bool×(Bool)×(Unit)):=fun (i)=>xis b a i none inL inR
def xpr:=xDb.l 43 0 [] [] Tryz.f80 0 lk0 [0,1,5] [4] [] (q3 (qL 3) (qL 1) qI) xLs (fun (b,a,i,_) _=>(xb7 b a,(i),fun p=>(.node p.1 (.leaf .ret [AV.bool p.2.1] []) (.leaf (.exit 0) [.top] [])))) (false,false,()) fun (b,a,_,_) _ (i)=>(((b,a,i,()),()),xis b a i none)
def xps {T:Type} (b a:LA) (δ:T) (κ:Bool->T):T:=br ((↑b.length:Int) != (↑a.length:Int)) (κ (false)) (br ((Iter (xb7 b a) 0).isSome) (br (((Iter (xb7 b a) 0).getD (false,false,())).fst) (κ (((Iter (xb7 b a) 0).getD (false,false,())).snd.fst)) (κ (true))) δ)
def xoW (b a:LA):=xps b a none some
def xHB:EO:=xDb.f Tryz.func80 43 0 [] [(4,xpr.lp)] (lk1 xpr.ok) (u2 (uL 3) (uL 1)) (fun (b,a,_) _=>xps b a) (fun _ p=>AV.bool p) false
def xvl (k:Int):Bool:=(br (k==1) ((true)) (br (k==2) ((true)) ((k==3))))
def xz6 {T:Type} (k:Int) (δ:T) (κ:Bool->T):T:=br (k==1) (κ (true)) (br (k==2) (κ (true)) (κ (k==3)))
def xDc:EO:=xHB.fT Tryz.func109 13 0 [] [] lk0 (fun (k,_)=>xz6 k none) (u1 uI) (fun (k,_)=>xvl k) (fun _ p=>(AV.bool p))
def xhG {T:Type} (l:LA) (i:Int) (δ:T) (κl:(Int)->T) (κr:(Bool×(Bool)×(Unit))->T):T:=br (decide (i<l.length)) (br (ixI l i) (br (ixS l i (Sh.int .i64) 0) (br (!xvl (gC l i 0).toInt) (κr (true,(false),())) (κl (i64.wrap (i+1)))) δ) δ) (κr (false,false,()))
def xbW (l:LA):StT (Int) (Bool×(Bool)×(Unit)):=fun (i)=>xhG l i none inL inR
def xoG:=xDc.l 16 0 [] [] Tryz.f81 0 lk0 [0,3] [2] [] (q2 (qL 1) qI) xLs (fun (l,i,_) _=>(xbW l,(i),fun p=>(.node p.1 (.leaf .ret [AV.bool p.2.1] []) (.leaf (.exit 0) [.top] [])))) (false,false,()) fun (l,_,_) _ (i)=>(((l,i,()),()),xhG l i none)
def xos {T:Type} (l:LA) (δ:T) (κ:Bool->T):T:=br ((Iter (xbW l) 0).isSome) (br (((Iter (xbW l) 0).getD (false,false,())).fst) (κ (((Iter (xbW l) 0).getD (false,false,())).snd.fst)) (κ (true))) δ
def xqO (l:LA):=xos l none some
def xDd:EO:=xDc.f Tryz.func81 16 0 [] [(2,xoG.lp)] (lk1 xoG.ok) (u1 (uL 1)) (fun (l,_) _=>xos l) (fun _ p=>AV.bool p) false
def xhH {T:Type} (i:Int) (b a:LA) (δ:T) (κl:(Int×LA×LA)->T) (κr:(Bool×(Bool×LA×LA)×(LA×LA))->T):T:=br (decide (i<a.length)) (br (ixI a i) (br (ixT a i 3 [Sh.int .i64,Sh.int .i64] 1) (br (!xgl (gC a i 1).toInt (gC a i 2).toInt) (κr (true,(false,b,a),([],[]))) (br (ixI a i) (br (ixS a i (Sh.list 3) 0) (br ((xoW (gC a i 0).toList b).isSome) (br (!(xoW (gC a i 0).toList b).getD false) (κr (true,(false,b,a),([],[]))) (κl (i64.wrap (i+1),b,a))) δ) δ) δ)) δ) δ) (κr (false,(false,[],[]),(b,a)))
def xbX:StT (Int×LA×LA) (Bool×(Bool×LA×LA)×(LA×LA)):=fun (i,a,b)=>xhH i a b none inL inR
def xoH:=xDd.l 46 0 [] [] Tryz.f50 0 lk0 [1,3] [1,2] [] (q2 (xLE 0 0 0 0) qI) (q1 (qB 0 2 84 (q1 (xLF (q2 (qL 1) (qL 3)))))) (fun (_,i,_) (((a,b,_),_),_)=>(xbX,(i,a,b),fun p=>(.node p.1 (.leaf .ret [AV.own 0 0 0 0,AV.bool p.2.1.1] [bF 0 2 84 [AV.agg [AV.list 1 p.2.1.2.1,AV.list 3 p.2.1.2.2]]]) (.leaf (.exit 0) [AV.own 0 0 0 0,.top] [bF 0 2 84 [AV.agg [AV.list 1 p.2.2.1,AV.list 3 p.2.2.2]]])))) (false,(false,[],[]),([],[])) fun _ _ (i,a,b)=>((((),i,()),(((a,b,()),()),())),xhH i a b none)
def xm8 (a b:LA):=(Iter xbX (0,a,b)).getD (false,(false,[],[]),[],[])
def xm7 (a b:LA):=(xm8 a b).snd
def xm6 (a b:LA):=(xm7 a b).snd.fst
def xm4 (a b:LA):=(↑(xm6 a b).length:Int)
def xm5 (a b:LA):=xqO (xm6 a b)
def xot {T:Type} (a b:LA) (δ:T) (κ:Bool->T):T:=br ((Iter xbX (0,a,b)).isSome) (br ((xm8 a b).fst) (κ ((xm7 a b).fst.fst)) (br (decide (xm4 a b>0)) (br (decide (xm4 a b<=48)) (br ((xm5 a b).isSome) (κ ((xm5 a b).getD false)) δ) (κ (false))) (κ (false)))) δ
def xnr (a b:LA):=xot a b none some
def xDe:EO:=xDd.f Tryz.func50 46 0 [] [(2,xoH.lp)] (lk1 xoH.ok) (u1 (xLI (u2 (uL 1) (uL 3)))) (fun ((a,b,_),_) _=>xot a b) (fun _ p=>AV.bool p) false
def xd7 (l:LA) (i:Int):=ixI l i
def xgv {T:Type} (l a:LA) (i:Int) (δ:T) (κl:(LA×Int)->T) (κr:(LA)->T):T:=br (decide (i<l.length)) (br (xd7 l i) (br (ixT l i 2 [Sh.int .i64,Sh.int .i64] 0) (br (xgl (gC l i 0).toInt (gC l i 1).toInt) (br (xd7 l i) (br (ixS l i (Sh.int .i64) 0) (br ((xfe a (gC l i 0).toInt).isSome) (br (xd7 l i) (br (ixS l i (Sh.int .i64) 1) (br ((xfe ((xfe a (gC l i 0).toInt).getD []) (gC l i 1).toInt).isSome) (κl ((xfe ((xfe a (gC l i 0).toInt).getD []) (gC l i 1).toInt).getD [],i64.wrap (i+1))) δ) δ) δ) δ) δ) δ) (κl (a,i64.wrap (i+1)))) δ) δ) (κr (a))
def xcl (l:LA):StT (LA×Int) (LA):=fun (a,i)=>xgv l a i none inL inR
def xnN:=xDe.l 31 0 [] [] Tryz.f95 0 lk0 [0,3,4] [3] [(3,1,1073741824)] (q3 (qL 2) (qL 1) qI) xLs (fun (l,a,i,_) _=>(xcl l,(a,i),fun p=>(.leaf (.exit 0) [AV.list 1 p] []))) [] fun (l,_,_,_) _ (a,i)=>(((l,a,i,()),()),xgv l a i none)
def xmK {T:Type} (l:LA) (δ:T) (κ:LA->T):T:=br ((Iter (xcl l) ([],0)).isSome) (κ ((Iter (xcl l) ([],0)).getD [])) δ
def xpq (l:LA):=xmK l none some
def xDf:EO:=xDe.f Tryz.func95 31 0 [] [(3,xnN.lp)] (lk1 xnN.ok) (u1 (uL 2)) (fun (l,_) _=>xmK l) (fun _ p=>AV.list 1 p) []
def xfr {T:Type} (l:LA) (t i:Int) (δ:T) (κl:(Int)->T) (κr:(Bool×(Bool)×(Unit))->T):T:=br (decide (i<l.length)) (br (ixI l i) (br (ixT l i 2 [Sh.int .i64,Sh.int .i64] 0) (br (xgG (gC l i 0).toInt (gC l i 1).toInt t) (κr (true,(true),())) (κl (i64.wrap (i+1)))) δ) δ) (κr (false,false,()))
def xaX (l:LA) (t:Int):StT (Int) (Bool×(Bool)×(Unit)):=fun (i)=>xfr l t i none inL inR
def xlK:=xDf.l 18 0 [] [] Tryz.f25 0 lk0 [0,1,5] [4] [] (q3 (qL 2) qI qI) xLs (fun (l,t,i,_) _=>(xaX l t,(i),fun p=>(.node p.1 (.leaf .ret [AV.bool p.2.1] []) (.leaf (.exit 0) [.top] [])))) (false,false,()) fun (l,t,_,_) _ (i)=>(((l,t,i,()),()),xfr l t i none)
def xkB {T:Type} (l:LA) (t:Int) (δ:T) (κ:Bool->T):T:=br ((Iter (xaX l t) 0).isSome) (br (((Iter (xaX l t) 0).getD (false,false,())).fst) (κ (((Iter (xaX l t) 0).getD (false,false,())).snd.fst)) (κ (false))) δ
def xe6 (l:LA) (t:Int):=xkB l t none some
def xHC:EO:=xDf.f Tryz.func25 18 0 [] [(2,xlK.lp)] (lk1 xlK.ok) (u2 (uL 2) uI) (fun (l,t,_) _=>xkB l t) (fun _ p=>AV.bool p) false
def xbO (c:Int) (a b:Bool):Bool:=(br (c==1) (br (a) ((b)) ((false))) (br (c==2) (br (a) ((true)) ((b))) (br (c==3) (br (a) ((!b)) ((false))) (br (!a) ((!b)) ((false))))))
def xv5 {T:Type} (c:Int) (a b:Bool) (δ:T) (κ:Bool->T):T:=br (c==1) (br (a) (κ (b)) (κ (false))) (br (c==2) (br (a) (κ (true)) (κ (b))) (br (c==3) (br (a) (κ (!b)) (κ (false))) (br (!a) (κ (!b)) (κ (false)))))
def xDg:EO:=xHC.fT Tryz.func96 32 0 [] [] lk0 (fun (c,a,b,_)=>xv5 c a b none) (u3 uI (sEq pBool) (sEq pBool)) (fun (c,a,b,_)=>xbO c a b) (fun _ p=>(AV.bool p))
def xdi (a:LA) (i:Int):=decide (0<=i64.wrap (i - 1))&&decide (i64.wrap (i - 1)<(↑a.length:Int))
def xdj (a:LA) (i:Int):=decide ((i64.wrap (i - 1)).toNat<a.length)&&xKH (Sh.int .i64) ((a.getD (i64.wrap (i - 1)).toNat .top).cells.getD 0 .top)
def xba (a:LA) (i:Int):=((a.getD (i64.wrap (i - 1)).toNat .top).cells.getD 0 .top).toInt
def xeQ (c:LA) (b:Nat) (i:Int) (a:LA):=(xbM b (xba c i) (gC c i 0).toInt a).getD (false,(0,[],[]),0,[])
def xeO (c:LA) (b:Nat) (i:Int) (a:LA):=(xeQ c b i a).fst
def xeP (c:LA) (b:Nat) (i:Int) (a:LA):=(xeQ c b i a).snd
def xeM (c:LA) (b:Nat) (i:Int) (a:LA):=(xeP c b i a).fst
def xeN (c:LA) (b:Nat) (i:Int) (a:LA):=(xeP c b i a).snd
def xdE {T:Type} (f:Int) (a b e:LA) (d:Nat) (i:Int) (c:LA) (δ:T) (κl:(Nat×Int×LA)->T) (κr:(Nat×LA)->T):T:=br (decide (i<e.length)) (br (xdi e i) (br (xdj e i) (br ((xe6 a (xba e i)).isSome) (br (xdi e i) (br (xdj e i) (br ((xe6 b (xba e i)).isSome) (br (xbO f ((xe6 a (xba e i)).getD false) ((xe6 b (xba e i)).getD false)) (br (xdi e i) (br (xdj e i) (br (ixI e i) (br (ixS e i (Sh.int .i64) 0) (br ((xbM d (xba e i) (gC e i 0).toInt c).isSome) (κl (br (xeO e d i c) (xeM e d i c).fst (xeN e d i c).fst,i64.wrap (i+1),br (xeO e d i c) (xeM e d i c).snd.snd (xeN e d i c).snd)) δ) δ) δ) δ) δ) (κl (d,i64.wrap (i+1),c))) δ) δ) δ) δ) δ) δ) (κr (d,c))
def xbi (e:Int) (a b f:LA):StT (Nat×Int×LA) (Nat×LA):=fun (d,i,c)=>xdE e a b f d i c none inL inR
def xlL:=xDg.l 58 0 [] [] Tryz.f67 0 lk0 [0,1,2,8,9,10] [9] [(9,2,50)] (q6 qI (qL 2) (qL 2) (qL 1) (xLD 0 0 0) qI) (q1 (qB 0 2 50 xLu)) (fun (e,a,b,f,d,i,_) (c,_)=>(xbi e a b f,(d,i,c),fun p=>(.leaf (.exit 0) [AV.osl 0 0 0 p.1] [bF 0 2 50 p.2]))) (0,[]) fun (e,a,b,f,_,_,_) _ (d,i,c)=>(((e,a,b,f,d,i,()),(c,())),xdE e a b f d i c none)
def xeC (a b:LA):Nat:=1+a.length+b.length
def xjJ (a b:LA):LA:=[AV.agg [AV.int .i64 0,AV.int .i64 1099511627776]]++a++b
def xjI (a b:LA):=xpq (List.take (xeC a b) (List.drop 0 (xjJ a b)))
def xjH (c:Int) (a b:LA):=Iter (xbi c a b ((xjI a b).getD [])) (0,1,[])
def xjG (c:Int) (a b:LA):=(xjH c a b).getD (0,[])
def xjE (c:Int) (a b:LA):=(xjG c a b).snd
def xjF (c:Int) (a b:LA):=(xjG c a b).fst
def xkD {T:Type} (c:Int) (a b:LA) (δ:T) (κ:LA->T):T:=br (decide ((1+a.length)*16<=140737488355328)&&decide (1+a.length<=4611686018427387904)) (br (1+a.length==([AV.agg [AV.int .i64 0,AV.int .i64 1099511627776]]++a).length&&(decide (xeC a b*16<=140737488355328)&&decide (xeC a b<=4611686018427387904))) (br (decide (0+xeC a b<=(xjJ a b).length)&&true) (br ((xjI a b).isSome) (br ((xjH c a b).isSome) (br (decide (0+xjF c a b<=(xjE c a b).length)&&true) (κ (List.take (xjF c a b) (List.drop 0 (xjE c a b)))) δ) δ) δ) δ) δ) δ
def xe7 (c:Int) (a b:LA):=xkD c a b none some
def xHD:EO:=xDg.f Tryz.func67 58 0 [] [(8,xlL.lp)] (lk1 xlL.ok) (u3 uI (uL 2) (uL 2)) (fun (c,a,b,_) _=>xkD c a b) (fun _ p=>AV.list 2 p) []
def xrJ {T:Type} (l:LA) (δ:T) (κ:LA->T):T:=br ((xe7 2 l []).isSome) (κ ((xe7 2 l []).getD [])) δ
def xrI (l:LA):=xrJ l none some
def xHE:EO:=xHD.f Tryz.func44 5 0 [] [] lk0 (u1 (uL 2)) (fun (l,_) _=>xrJ l) (fun _ p=>AV.list 2 p) []
def xoE {T:Type} (a b:LA) (δ:T) (κ:LA->T):T:=br ((xe7 1 a b).isSome) (κ ((xe7 1 a b).getD [])) δ
def xqg (a b:LA):=xoE a b none some
def xl1 {T:Type} (e:List UInt8) (b a c d l:LA) (δ:T) (κ:Bool->T):T:=br ((xnq e b a c d).isSome) (br ((xnq e b a c d).getD 0==0) (br ((xgn e b a c d).isSome) (br ((xnr ((xgn e b a c d).getD []) l).isSome) (κ ((xnr ((xgn e b a c d).getD []) l).getD false)) δ) δ) (κ (false))) δ
def xkj (e:List UInt8) (b a c d l:LA):=xl1 e b a c d l none some
def xHJ:EO:=xHE.f Tryz.func28 15 0 [] [] lk0 (u2 (xLI (u5 (sEq pStr) (uL 3) (uL 1) (uL 2) (uL 7))) (uL 3)) (fun ((e,b,a,c,d,_),l,_) _=>xl1 e b a c d l) (fun _ p=>AV.bool p) false
def xqQ {T:Type} (f:List UInt8) (c a d e b:LA) (δ:T) (κ:LA->T):T:=br ((xoX b a).isSome) (κ ((xoX b a).getD [])) δ
def xhf (e:List UInt8) (b a c d f:LA):=xqQ e b a c d f none some
def xDs:EO:=xHJ.f Tryz.func26 9 0 [] [] lk0 (u2 (xLI (u5 (sEq pStr) (uL 3) (uL 1) (uL 2) (uL 7))) (uL 3)) (fun ((e,b,a,c,d,_),g,_) _=>xqQ e b a c d g) (fun _ p=>AV.list 3 p) []
def xf2 {T:Type} (l h:LA) (b:Nat) (i:Int) (c:List UInt8) (d e f g a:LA) (δ:T) (κl:(Nat×Int×List UInt8×LA×LA×LA×LA×LA)->T) (κr:(Nat×LA)->T):T:=br (decide (i<l.length)) (br (ixI l i) (br (ixS l i (Sh.list 3) 0) (br ((xhf c d e f g (gC l i 0).toList).isSome) (br ((xcg ((xhf c d e f g (gC l i 0).toList).getD []) h).isSome) (br ((xcg ((xhf c d e f g (gC l i 0).toList).getD []) h).getD 0==0) (br (ixI l i) (br (ixT l i 3 [Sh.int .i64,Sh.int .i64] 1) (br (rmB b a 1 16) (κl (b+1,i64.wrap (i+1),c,d,e,f,g,a++[AV.agg [AV.int .i64 (gC l i 1).toInt,AV.int .i64 (gC l i 2).toInt]])) δ) δ) δ) (κl (b,i64.wrap (i+1),c,d,e,f,g,a))) δ) δ) δ) δ) (κr (b,a))
def xb2 (l c:LA):StT (Nat×Int×List UInt8×LA×LA×LA×LA×LA) (Nat×LA):=fun (b,i,d,e,f,g,h,a)=>xf2 l c b i d e f g h a none inL inR
def xmj:=xDs.l 34 0 [] [] Tryz.f45 0 lk0 [1,2,3,7,8] [7] [(7,2,50)] (q5 (qL 3) (qL 3) (xLE 0 0 0 0) (xLD 1 0 0) qI) (q2 (qB 0 5 27 (q1 (xLF (q5 pStr (qL 3) (qL 1) (qL 2) (qL 7))))) (qB 0 2 50 xLu)) (fun (l,c,_,b,i,_) (((d,e,f,g,h,_),_),a,_)=>(xb2 l c,(b,i,d,e,f,g,h,a),fun p=>(.leaf (.exit 0) [AV.osl 0 0 0 p.1] [bF 0 2 50 p.2]))) (0,[]) fun (l,c,_,_,_,_) _ (b,i,d,e,f,g,h,a)=>(((l,c,(),b,i,()),(((d,e,f,g,h,()),()),a,())),xf2 l c b i d e f g h a none)
def xkP (e:List UInt8) (b a c d l f:LA):=Iter (xb2 l f) (0,0,e,b,a,c,d,[])
def xkO (e:List UInt8) (b a c d l f:LA):=(xkP e b a c d l f).getD (0,[])
def xkM (e:List UInt8) (b a c d l f:LA):=(xkO e b a c d l f).fst
def xkN (e:List UInt8) (b a c d l f:LA):=(xkO e b a c d l f).snd
def xl2 {T:Type} (e:List UInt8) (b a c d l f:LA) (δ:T) (κ:LA->T):T:=br ((xkP e b a c d l f).isSome) (br (decide (0+xkM e b a c d l f<=(xkN e b a c d l f).length)&&true) (κ (List.take (xkM e b a c d l f) (List.drop 0 (xkN e b a c d l f)))) δ) δ
def xh1 (e:List UInt8) (b a c d l f:LA):=xl2 e b a c d l f none some
def xHK:EO:=xDs.f Tryz.func45 34 0 [] [(3,xmj.lp)] (lk1 xmj.ok) (u3 (xLI (u5 (sEq pStr) (uL 3) (uL 1) (uL 2) (uL 7))) (uL 3) (uL 3)) (fun ((e,b,a,c,d,_),l,g,_) _=>xl2 e b a c d l g) (fun _ p=>AV.list 2 p) []
def xkL {T:Type} (e:List UInt8) (b a c d l f:LA) (δ:T) (κ:LA->T):T:=br ((xh1 e b a c d l f).isSome) (br ((xrI ((xh1 e b a c d l f).getD [])).isSome) (κ ((xrI ((xh1 e b a c d l f).getD [])).getD [])) δ) δ
def xgN (e:List UInt8) (b a c d l f:LA):=xkL e b a c d l f none some
def xuJ:EO:=xHK.f Tryz.func20 12 0 [] [] lk0 (u3 (xLI (u5 (sEq pStr) (uL 3) (uL 1) (uL 2) (uL 7))) (uL 3) (uL 3)) (fun ((e,b,a,c,d,_),l,g,_) _=>xkL e b a c d l g) (fun _ p=>AV.list 2 p) []
def xgM (l:LA) (i:Int):=ixI l i
def xki {T:Type} (l h:LA) (j:Int) (b:Nat) (i:Int) (c:List UInt8) (d e f g a:LA) (δ:T) (κl:(Nat×Int×List UInt8×LA×LA×LA×LA×LA)->T) (κr:(Nat×LA)->T):T:=br (decide (i<l.length)) (br (xgM l i) (br (ixT l i 3 [Sh.int .i64,Sh.int .i64] 1) (br (xgG (gC l i 1).toInt (gC l i 2).toInt j) (br (xgM l i) (br (ixS l i (Sh.list 3) 0) (br ((xhf c d e f g (gC l i 0).toList).isSome) (br ((xcg ((xhf c d e f g (gC l i 0).toList).getD []) h).isSome) (br ((xcg ((xhf c d e f g (gC l i 0).toList).getD []) h).getD 0==0) (br (xgM l i) (br (ixS l i (Sh.list 3) 0) (br (rmB b a 1 24) (κl (b+1,i64.wrap (i+1),c,d,e,f,g,a++[AV.list 3 (gC l i 0).toList])) δ) δ) δ) (κl (b,i64.wrap (i+1),c,d,e,f,g,a))) δ) δ) δ) δ) (κl (b,i64.wrap (i+1),c,d,e,f,g,a))) δ) δ) (κr (b,a))
def xdP (l c:LA) (d:Int):StT (Nat×Int×List UInt8×LA×LA×LA×LA×LA) (Nat×LA):=fun (b,i,e,f,g,h,j,a)=>xki l c d b i e f g h j a none inL inR
def xrd:=xuJ.l 52 0 [] [] Tryz.f16 0 lk0 [1,2,3,4,10,11] [10] [(10,1,34)] (q6 (qL 3) (qL 3) qI (xLE 0 0 0 0) (xLD 1 0 0) qI) (q2 (qB 0 5 27 (q1 (xLF (q5 pStr (qL 3) (qL 1) (qL 2) (qL 7))))) (qB 0 1 34 xLu)) (fun (l,c,d,_,b,i,_) (((e,f,g,h,j,_),_),a,_)=>(xdP l c d,(b,i,e,f,g,h,j,a),fun p=>(.leaf (.exit 0) [AV.osl 0 0 0 p.1] [bF 0 1 34 p.2]))) (0,[]) fun (l,c,d,_,_,_,_) _ (b,i,e,f,g,h,j,a)=>(((l,c,d,(),b,i,()),(((e,f,g,h,j,()),()),a,())),xki l c d b i e f g h j a none)
def xh6:Env:=xuJ.E.fn 52 0 (lsOf []) (xK4 [(3,xrd.lp)])
theorem xv7:xKJ P0 (xLp.at 0) xh6:=xuJ.ok.fn
theorem xuB:LoOk P0 (xLp.at xh6.pin) xh6 (Tryz.f16.body.getD .skip):=xmH (ls:=[xKN Tryz.f16 0]) (by kernel_rfl) (lkC xrd.ok lkN)
def xnw (e:List UInt8) (b a c d l f:LA) (g:Int):=Iter (xdP l f g) (0,0,e,b,a,c,d,[])
def xnv (e:List UInt8) (b a c d l f:LA) (g:Int):=(xnw e b a c d l f g).getD (0,[])
def xj7 (e:List UInt8) (b a c d l f:LA) (g:Int):=(xnv e b a c d l f g).fst
def xnu (e:List UInt8) (b a c d l f:LA) (g:Int):=(xnv e b a c d l f g).snd
def xnt (e:List UInt8) (b a c d l f:LA) (g:Int):=xrK (List.take (xj7 e b a c d l f g) (List.drop 0 (xnu e b a c d l f g)))
def xj6 (e:List UInt8) (b a c d l f:LA) (g:Int):=(xnt e b a c d l f g).getD []
def xns (e:List UInt8) (b a c d l f:LA) (g:Int):=(xj6 e b a c d l f g).length
def xl0 {T:Type} (e:List UInt8) (b a c d l f:LA) (g:Int) (δ:T) (κ:Bool×(Bool)×(LA×Bool)->T):T:=br ((xnw e b a c d l f g).isSome) (br ((↑(xj7 e b a c d l f g):Int)==0) (κ (true,(false),([],false))) (br (decide (0+xj7 e b a c d l f g<=(xnu e b a c d l f g).length)&&true) (br ((xnt e b a c d l f g).isSome) (br (decide (0<(↑(xns e b a c d l f g):Int))) (br (decide (0<xns e b a c d l f g)&&xKH (Sh.list 3) (((xj6 e b a c d l f g).getD 0 .top).cells.getD 0 .top)) (κ (false,false,((((xj6 e b a c d l f g).getD 0 .top).cells.getD 0 .top).toList,true))) δ) δ) δ) δ)) δ
def xfj (e:List UInt8) (b a c d l f:LA) (g:Int):Option (LA×Bool):=xl0 e b a c d l f g none (fun (p:Bool×(Bool)×(LA×Bool))=>some (br p.1 (([],p.2.1)) p.2.2))
theorem xCJ (e:List UInt8) (b a c d l f:LA) (g:Int):EncS (fun (p:LA×Bool)=>(AV.tuple [AV.list 3 p.1,AV.bool p.2]:AV)) (xfj e b a c d l f g) (XF P0 xh6 Tryz.f16 (Tryz.f16.body.getD .skip) [AV.agg [AV.str e,AV.list 3 b,AV.list 1 a,AV.list 2 c,AV.list 7 d],AV.list 3 l,AV.list 3 f,AV.int .i64 g]):=by
 have h:XF P0 xh6 Tryz.f16 (Tryz.f16.body.getD .skip) [AV.agg [AV.str e,AV.list 3 b,AV.list 1 a,AV.list 2 c,AV.list 7 d],AV.list 3 l,AV.list 3 f,AV.int .i64 g]=xl0 e b a c d l f g none (fun (p:Bool×(Bool)×(LA×Bool))=>some ((br p.1 (AV.tuple [AV.nils,AV.bool p.2.1]) (AV.tuple [AV.list 3 p.2.2.1,AV.bool p.2.2.2])):AV)):=by kernel_rfl
 rw [h];unfold xfj xl0;repeat' (first|exact EncS.none|exact EncS.some (Sub.refl _)|exact EncS.some (xrV _)|exact EncS.some (xsh _ _)|refine EncS.br ?_ ?_)
def xCI:LA->Option (Bool×AV):=ocOf (xLr (xLI (xLr (sEq pStr) (xLr (xLH 3 xLu) (xLr (xLH 1 xLu) (xLr (xLH 2 xLu) (xLr (xLH 7 xLu) xLt)))))) (xLr (xLH 3 xLu) (xLr (xLH 3 xLu) (xLr (sEq (pInt .i64)) xLt)))) fun ((e,(b,(a,(c,(d,_))))),(l,(f,(g,_))))=>((xfj e b a c d l f g).isSome,(AV.tuple [AV.list 3 ((xfj e b a c d l f g).getD ([],false)).1,AV.bool ((xfj e b a c d l f g).getD ([],false)).2]))
theorem xCH:OcOk P0 xLp 16 (xCI):=xfF fun h q i=>by
 obtain ⟨⟨j,⟨e,⟨a,⟨f,⟨g,_⟩⟩⟩⟩⟩,⟨l,⟨n,⟨o,_⟩⟩⟩⟩:=h;obtain ⟨b,c⟩:=Prod.mk.inj i;obtain ⟨y,k,m⟩:=xCJ _ _ _ _ _ _ _ _ _ (xaL (d:=([],false)) b);have hg:Good P0 xLp 16 _ _:=xhl (p:=xh6.pin) (xjf xKS (xKT P0 _) rfl xv7 Tryz.func16 rfl (by kernel_rfl) xuB k)
 rw [<-c];exact Good.sub hg m
def xHL:EO:=xuJ.w xCH
def xHi:EO:=xC7.w xAc
def xa7 (r:LA) (e:List UInt8) (b a c d:LA):=(xfM ((xdl e b a c d r).getD [])).getD []
def xlo (r:LA) (f t:Int) (e:List UInt8) (b a c d g:LA):=decide ((xa7 r e b a c d).length<=4611686018427387904)
def xdW (r:LA) (f:List UInt8) (b a c d e:LA):=((e.getD (putIx e (xa7 r f b a c d)) .top).cells.getD 1 .top).toList.length
def xoP (r:LA) (f t:Int) (g:List UInt8) (b a c d e:LA):=((e.getD (putIx e (xa7 r g b a c d)) .top).cells.getD 1 .top).toList++[AV.agg [AV.int .i64 f,AV.int .i64 t,AV.int .i64 1]]
def xlp (r:LA) (f:List UInt8) (c a d e b:LA):=b.set (putIx b (xa7 r f c a d e)) (AV.agg (List.take 1 (b.getD (putIx b (xa7 r f c a d e)) .top).cells++[AV.int .i64 (↑(xdW r f c a d e b):Int)]++List.drop 2 (b.getD (putIx b (xa7 r f c a d e)) .top).cells))
def xje (r:LA) (e:List UInt8) (b a c d f:LA):=xdW r e b a c d f+1
def xqc {T:Type} (r:LA) (f t:Int) (g:List UInt8) (b a c d e:LA) (δ:T) (κ:LA->T):T:=br ((xdl g b a c d r).isSome) (br ((xfM ((xdl g b a c d r).getD [])).isSome) (br (xlo r f t g b a c d e) (br (xLc e (xa7 r g b a c d)) (br (xLn 3 ((e.getD (putIx e (xa7 r g b a c d)) .top).cells.getD 1 .top)) (br (decide (putIx e (xa7 r g b a c d)<e.length)&&(xLn 3 ((e.getD (putIx e (xa7 r g b a c d)) .top).cells.getD 1 .top)&&((e.getD (putIx e (xa7 r g b a c d)) .top).cells.length==2&&(2*xdW r g b a c d e==2*xdW r g b a c d e&&(xdW r g b a c d e==xdW r g b a c d e&&(xdW r g b a c d e==xdW r g b a c d e&&(decide (xje r g b a c d e*24<=140737488355328)&&decide (xje r g b a c d e<=4611686018427387904)))))))) (br (xje r g b a c d e==(xoP r f t g b a c d e).length&&(decide ((xlp r g b a c d e).length<4611686018427387904)&&(xlo r f t g b a c d e&&deadR (xlp r g b a c d e) (xa7 r g b a c d) (xje r g b a c d e)))) (κ (xKZ (xlp r g b a c d e) (xa7 r g b a c d) (AV.list 3 (xoP r f t g b a c d e)))) δ) δ) δ) (br (decide (e.length<4611686018427387904)&&(xlo r f t g b a c d e&&deadR e (xa7 r g b a c d) 1)) (κ (xKZ e (xa7 r g b a c d) (AV.list 3 [AV.agg [AV.int .i64 f,AV.int .i64 t,AV.int .i64 1]]))) δ)) δ) δ) δ
def crowds1 (r:LA) (f t:Int) (e:List UInt8) (b a c d g:LA):=xqc r f t e b a c d g none some
def xnB:EO:=xHi.fM Tryz.func52 20 1 [1000058,8000000] [] lk0 (u3 (xLI (u3 (uL 3) uI uI)) (sEq (xLK 5 0 0 (q1 (xLF (q5 pStr (qL 3) (qL 1) (qL 2) (qL 7)))))) (sEq (xK5 (1099511627776:FuncId) (q1 (xLE 0 0 0 0))))) (q1 (qB 0 2 1208926202420975661744128 xLu)) (fun ((r,f,t,_),((e,b,a,c,d,_),_),(_,_),_) (g,_) _=>xqc r f t e b a c d g) (fun _ _ p=>(AV.tuple [],([bF 0 2 1208926202420975661744128 p]:List Box))) []
end Go.Sim.M
