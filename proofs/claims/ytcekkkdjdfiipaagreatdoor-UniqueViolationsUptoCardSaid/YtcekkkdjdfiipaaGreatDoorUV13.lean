/- Part 13 of the proof of the law. -/
import Derived.Test.YtcekkkdjdfiipaaGreatDoorUV12
import Derived.StillTailTactics
set_option linter.unusedVariables false
set_option linter.unusedSimpArgs false
set_option maxRecDepth 100000
noncomputable section
namespace Go.Sim.M
abbrev TyE:Type:=Fin 1099511627777×Int×Int
def intsE (x:TyE):List Int:=[(x.1.val:Int),x.2.1,x.2.2]
def cmpE (x y:TyE):Int:=(x.1.val:Int) - (y.1.val:Int)
end Go.Sim.M
namespace Go.Proofs
open Go.RowKit Go.Sim Go.Sim.M Go.Sort
set_option maxHeartbeats 1000000 in
theorem Tryz.walkE (a b c a' b' c' r:Int) (hr:IntKind.i64.wrap (a - a')=r) (W:World):Calls Tryz.prog 116 #[.agg #[.int .i64 a,.int .i64 b,.int .i64 c],.agg #[.int .i64 a',.int .i64 b',.int .i64 c']] W fun e w'=>e=.returned (.int .i64 r)/\∃ q os',w'=Sort.grow (W.drewN q) os':=by
 go_enter Tryz.func116,Tryz.ntmps116
 go_wp2
 go_ret
 subst hr;exact ⟨rfl,0,_,by rw [alloc_eq_grow,alloc_eq_grow,grow_grow];rfl⟩
end Go.Proofs
namespace Go.Sim.M
open Go.RowKit Go.Proofs Go.Sort
def isE:AV->Bool
 | .agg [.int .i64 a,.int .i64 _,.int .i64 _]=>decide (0<=a)&&decide (a<=1099511627776)
 | _=>false
def decE:AV->TyE
 | .agg [.int _ a,.int _ b,.int _ c]=>(Fin.ofNat 1099511627777 a.toNat,b,c)
 | _=>default
noncomputable def srtE (xs:List AV):List AV:=(pdqL cmpE (xs.map decE)).map (encI intsE)
theorem xI5 {x:AV} (h:isE x=true):encI intsE (decE x)=x:=by
 unfold isE at h;split at h
 . rename_i a b c;simp only [Bool.and_eq_true,decide_eq_true_eq] at h;have:a.toNat % 1099511627777=a.toNat:=Nat.mod_eq_of_lt (by omega)
   simp only [decE,encI,intsE,List.map_cons,List.map_nil,Fin.ofNat,this,Int.toNat_of_nonneg h.1]
 . simp at h
theorem xHA {xs:List AV} (h:xs.all isE=true):(xs.map decE).map (encI intsE)=xs:=by
 rw [List.map_map]
 conv=>rhs;rw [<-List.map_id xs]
 refine List.map_congr_left fun x hx=>?_
 exact xI5 (List.all_eq_true.1 h x hx)
theorem ltE (x y:TyE):ltOf cmpE x y=decide (x.1.val<y.1.val):=by
 unfold ltOf cmpE;by_cases h:x.1.val<y.1.val
 . rw [decide_eq_true h,decide_eq_true (by omega)]
 . rw [decide_eq_false h,decide_eq_false (by omega)]
theorem swoE:SWO (ltOf cmpE) where
 irrefl x:=by rw [ltE];simp
 trans x y z h1 h2:=by rw [ltE] at *;simp at *;omega
 ntrans x y z h1 h2:=by rw [ltE] at *;simp at *;omega
noncomputable def xAt:List AV->List Box->Option (Bool×AV×List Box)
 | [.osl (.b 0) ver 0 n,.func g []],[⟨ver',3,ty,xs,false,true⟩]=>match Nat.beq g 116&&Nat.beq ty 132 with
  | true=>some (Nat.beq ver ver'&&(Nat.beq n xs.length&&(decide (n<4611686018427387904)&&xs.all isE)),.tuple [],[⟨ver',3,132,srtE xs,false,true⟩])
  | false=>none
 | _,_=>none
theorem xK1:OmOk Tryz.prog xPq 115 xAt:=fun Q H r H' h=>by
 unfold xAt at h;split at h
 . rename_i ver n g O ty xs;split at h
   case h_2=>simp at h
   rename_i hg;simp only [Bool.and_eq_true] at hg;obtain rfl:=Nat.eq_of_beq_eq_true hg.1;obtain rfl:=Nat.eq_of_beq_eq_true hg.2;simp only [Option.some.injEq,Prod.mk.injEq,Bool.and_eq_true,decide_eq_true_eq] at h;obtain ⟨⟨h1,h2,h3,h4⟩,rfl,rfl⟩:=h;obtain rfl:=Nat.eq_of_beq_eq_true h1;obtain rfl:=Nat.eq_of_beq_eq_true h2;have q:∃ ti,xOJ Tryz.prog 132=some ti/\ti.sz=3/\ti.agg=true:=by
    have h:(match xOJ Tryz.prog 132 with|some ti=>(ti.sz==3)&&ti.agg|none=>false)=true:=by kernel_rfl
    split at h
    . rename_i ti q;simp only [Bool.and_eq_true,beq_iff_eq] at h;exact ⟨ti,q,h.1,h.2⟩
    . simp at h
   obtain ⟨ti,q,hz,ha⟩:=q;have J:=xvn (P:=Tryz.prog) (Inv:=xPq) Tryz.srl115 3 (by decide) (fun w=>by rw [<-ha];exact xnj q w) (fun w=>by rw [<-hz];exact xdM q w)
    intsE (fun _=>rfl) cmpE swoE 116 rfl (xfq Tryz.func115 rfl (by kernel_rfl)) (xr0 (xfq Tryz.func116 rfl (by kernel_rfl)))
    (fun x y W=>Tryz.walkE _ _ _ _ _ _ (cmpE x y) (by
     have:=x.1.isLt;have:=y.1.isLt;unfold cmpE;exact xdP (by omega) (by omega)) W)
    ver 132 rfl (xs.map decE) (by simpa using h3)
   rw [List.length_map,xHA h4] at J;exact J
 . simp at h
end Go.Sim.M
namespace Go.Sim.M
abbrev TyS:Type:=Fin 1099511627777×Int
def intsS (x:TyS):List Int:=[(x.1.val:Int),x.2]
def cmpS (x y:TyS):Int:=(x.1.val:Int) - (y.1.val:Int)
end Go.Sim.M
namespace Go.Proofs
open Go.RowKit Go.Sim Go.Sim.M Go.Sort
set_option maxHeartbeats 1000000 in
theorem Tryz.walkS (a b a' b' r:Int) (hr:IntKind.i64.wrap (a - a')=r) (W:World):Calls Tryz.prog 84 #[.agg #[.int .i64 a,.int .i64 b],.agg #[.int .i64 a',.int .i64 b']] W fun e w'=>e=.returned (.int .i64 r)/\∃ q os',w'=Sort.grow (W.drewN q) os':=by
 go_enter Tryz.func84,Tryz.ntmps84
 go_wp2
 go_ret
 subst hr;exact ⟨rfl,0,_,by rw [alloc_eq_grow,alloc_eq_grow,grow_grow];rfl⟩
end Go.Proofs
namespace Go.Sim.M
open Go.RowKit Go.Proofs Go.Sort
def isS:AV->Bool
 | .agg [.int .i64 a,.int .i64 _]=>decide (0<=a)&&decide (a<=1099511627776)
 | _=>false
def decS:AV->TyS
 | .agg [.int _ a,.int _ b]=>(Fin.ofNat 1099511627777 a.toNat,b)
 | _=>default
noncomputable def srtS (xs:List AV):List AV:=(pdqL cmpS (xs.map decS)).map (encI intsS)
theorem xI6 {x:AV} (h:isS x=true):encI intsS (decS x)=x:=by
 unfold isS at h;split at h
 . rename_i a b;simp only [Bool.and_eq_true,decide_eq_true_eq] at h;have:a.toNat % 1099511627777=a.toNat:=Nat.mod_eq_of_lt (by omega)
   simp only [decS,encI,intsS,List.map_cons,List.map_nil,Fin.ofNat,this,Int.toNat_of_nonneg h.1]
 . simp at h
theorem xHB {xs:List AV} (h:xs.all isS=true):(xs.map decS).map (encI intsS)=xs:=by
 rw [List.map_map]
 conv=>rhs;rw [<-List.map_id xs]
 refine List.map_congr_left fun x hx=>?_
 exact xI6 (List.all_eq_true.1 h x hx)
theorem ltS (x y:TyS):ltOf cmpS x y=decide (x.1.val<y.1.val):=by
 unfold ltOf cmpS;by_cases h:x.1.val<y.1.val
 . rw [decide_eq_true h,decide_eq_true (by omega)]
 . rw [decide_eq_false h,decide_eq_false (by omega)]
theorem swoS:SWO (ltOf cmpS) where
 irrefl x:=by rw [ltS];simp
 trans x y z h1 h2:=by rw [ltS] at *;simp at *;omega
 ntrans x y z h1 h2:=by rw [ltS] at *;simp at *;omega
noncomputable def xAu:List AV->List Box->Option (Bool×AV×List Box)
 | [.osl (.b 0) ver 0 n,.func g []],[⟨ver',2,ty,xs,false,true⟩]=>match Nat.beq g 84&&Nat.beq ty 121 with
  | true=>some (Nat.beq ver ver'&&(Nat.beq n xs.length&&(decide (n<4611686018427387904)&&xs.all isS)),.tuple [],[⟨ver',2,121,srtS xs,false,true⟩])
  | false=>none
 | _,_=>none
theorem xK2:OmOk Tryz.prog xPq 83 xAu:=fun Q H r H' h=>by
 unfold xAu at h;split at h
 . rename_i ver n g O ty xs;split at h
   case h_2=>simp at h
   rename_i hg;simp only [Bool.and_eq_true] at hg;obtain rfl:=Nat.eq_of_beq_eq_true hg.1;obtain rfl:=Nat.eq_of_beq_eq_true hg.2;simp only [Option.some.injEq,Prod.mk.injEq,Bool.and_eq_true,decide_eq_true_eq] at h;obtain ⟨⟨h1,h2,h3,h4⟩,rfl,rfl⟩:=h;obtain rfl:=Nat.eq_of_beq_eq_true h1;obtain rfl:=Nat.eq_of_beq_eq_true h2;have q:∃ ti,xOJ Tryz.prog 121=some ti/\ti.sz=2/\ti.agg=true:=by
    have h:(match xOJ Tryz.prog 121 with|some ti=>(ti.sz==2)&&ti.agg|none=>false)=true:=by kernel_rfl
    split at h
    . rename_i ti q;simp only [Bool.and_eq_true,beq_iff_eq] at h;exact ⟨ti,q,h.1,h.2⟩
    . simp at h
   obtain ⟨ti,q,hz,ha⟩:=q;have J:=xvn (P:=Tryz.prog) (Inv:=xPq) Tryz.srl83 2 (by decide) (fun w=>by rw [<-ha];exact xnj q w) (fun w=>by rw [<-hz];exact xdM q w)
    intsS (fun _=>rfl) cmpS swoS 84 rfl (xfq Tryz.func83 rfl (by kernel_rfl)) (xr0 (xfq Tryz.func84 rfl (by kernel_rfl)))
    (fun x y W=>Tryz.walkS _ _ _ _ (cmpS x y) (by
     have:=x.1.isLt;have:=y.1.isLt;unfold cmpS;exact xdP (by omega) (by omega)) W)
    ver 121 rfl (xs.map decS) (by simpa using h3)
   rw [List.length_map,xHB h4] at J;exact J
 . simp at h
end Go.Sim.M
namespace Go.Sim.M
open Go.RowKit Go.Proofs
noncomputable def E1:Env:=(xJx.E.withM 83 xAu).withM 115 xAt
theorem xJX:xOK Tryz.prog xPq E1:=(xJx.ok.withM xK2).withM xK1
noncomputable def xMF:EO:=EO.mk E1 xJX
end Go.Sim.M
namespace Go.Sim.M
open Go.IntKind (i64 u64 u8)
open Go.RowKit Go.Proofs
def xiS:Env:=E1.fn 29 1 (lsOf []) (xO5 [])
theorem xzM:xOK P0 (xPq.at 1) xiS:=xJX.fn
theorem xwE:LoOk P0 (xPq.at xiS.pin) xiS (Tryz.f85.body.getD .skip):=xfx (by kernel_rfl)
def xrn {T:Type} (k:Nat) (a n:Int) (b:LA) (δ:T) (κ:Bool×(Nat×LA)×(Nat×LA)->T):T:=br (rmB k b 1 16) (κ (false,(0,[]),(k+1,b++[AV.agg [AV.int .i64 a,AV.int .i64 n]]))) δ
def xub {T:Type} (k:Nat) (b n:Int) (a:LA) (δ:T) (κ:Bool×(Nat×LA)×(Nat×LA)->T):T:=br (decide ((↑k:Int)>0)) (br (decide (0<=i64.wrap ((↑k:Int) - 1))&&decide (i64.wrap ((↑k:Int) - 1)<(↑k:Int))) (br (decide (0+(i64.wrap ((↑k:Int) - 1)).toNat<a.length)&&xOI (Sh.int .i64) ((a.getD (0+(i64.wrap ((↑k:Int) - 1)).toNat) .top).cells.getD 1 .top)) (br (((a.getD (0+(i64.wrap ((↑k:Int) - 1)).toNat) .top).cells.getD 1 .top).toInt==n) (κ (true,(k,a),(0,[]))) (xrn k b n a δ κ)) δ) δ) (xrn k b n a δ κ)
def xdi (k:Nat) (a n:Int) (b:LA):=xub k a n b none some
theorem xEG (k:Nat) (a n:Int) (xs:LA):Enc (fun (p:Bool×(Nat×LA)×(Nat×LA))=>((br p.1 ((AV.osl 0 0 0 p.2.1.1,([⟨0,2,121,p.2.1.2,false,true⟩]:List Box))) ((AV.osl 0 1 0 p.2.2.1,([⟨1,2,121,p.2.2.2,false,true⟩]:List Box)))):(AV×List Box))) (xdi k a n xs) (XFM P0 xiS Tryz.f85 (Tryz.f85.body.getD .skip) [AV.osl (0:Id) 0 0 k,AV.int .i64 a,AV.int .i64 n] [{ ver:=0,sz:=2,ty:=(121:TypeId),xs:=xs,frz:=false,pm:=true }]):=by
 have h:XFM P0 xiS Tryz.f85 (Tryz.f85.body.getD .skip) [AV.osl (0:Id) 0 0 k,AV.int .i64 a,AV.int .i64 n] [{ ver:=0,sz:=2,ty:=(121:TypeId),xs:=xs,frz:=false,pm:=true }]=xub k a n xs none (fun (p:Bool×(Nat×LA)×(Nat×LA))=>some ((br p.1 ((AV.osl 0 0 0 p.2.1.1,([⟨0,2,121,p.2.1.2,false,true⟩]:List Box))) ((AV.osl 0 1 0 p.2.2.1,([⟨1,2,121,p.2.2.2,false,true⟩]:List Box)))):(AV×List Box))):=by kernel_rfl
 rw [h];unfold xdi xub xrn;repeat' (first|refine Enc.br ?_ ?_|exact Enc.none|exact Enc.some rfl)
def xEF:LA->List Box->Option (Bool×AV×List Box):=omOf (xPs (sEq (xPE 0 0 0)) (xPs (sEq (pInt .i64)) (xPs (sEq (pInt .i64)) xPu))) (xPr (xPH 0 2 (121:TypeId) false true xPv) xPt) fun (k,(a,(n,_))) (b,_)=>((xdi k a n b).isSome,(AV.osl 0 1 0 (br ((xdi k a n b).getD (false,(0,[]),(0,[]))).1 ((xdi k a n b).getD (false,(0,[]),(0,[]))).2.1.1 ((xdi k a n b).getD (false,(0,[]),(0,[]))).2.2.1),([⟨1,2,121,(br ((xdi k a n b).getD (false,(0,[]),(0,[]))).1 ((xdi k a n b).getD (false,(0,[]),(0,[]))).2.1.2 ((xdi k a n b).getD (false,(0,[]),(0,[]))).2.2.2),false,true⟩]:List Box)))
theorem xEE:OmOk P0 xPq 85 (xEF):=xrW fun e f j i g=>by
 obtain ⟨k,⟨b,⟨n,_⟩⟩⟩:=e;obtain ⟨h,_⟩:=f;obtain ⟨c,a⟩:=Prod.mk.inj g;have hx:=xEG _ _ _ _ _ (xaJ (d:=(false,(0,[]),(0,[]))) c);revert hx a;generalize ((xdi k b n h).getD (false,(0,[]),(0,[])))=p;intro a hx;obtain ⟨rfl,rfl⟩:=Prod.mk.inj a;obtain ⟨t,⟨l,m⟩,o,q⟩:=p;have hg:GoodM P0 xPq 85 _ _ _ _:=xne (p:=xiS.pin) (xnd xOT (xOU P0 _) rfl xzM rfl Tryz.func85 rfl (by kernel_rfl) xwE hx)
 cases t
 . exact hg
 . exact GoodM.bump1 rfl (by decide) hg
def xvA:EO:=xMF.wM xEE
def xmw {T:Type} (d:LA) (e:Int) (b:Nat) (c:Int) (a:LA) (δ:T) (κl:(Nat×Int×LA)->T) (κr:(Nat×LA)->T):T:=br (decide (c<e)) (br (ixI d c) (br (ixT d c 3 [Sh.int .i64,Sh.int .i64,Sh.int .i64] 0) (br (xec (gC d c 0).toInt (gC d c 1).toInt) (br (rmB b a 2 16) (κl (b+2,i64.wrap (c+1),a++[AV.agg [AV.int .i64 (gC d c 0).toInt,AV.int .i64 (gC d c 2).toInt],AV.agg [AV.int .i64 (gC d c 1).toInt,AV.int .i64 (i64.wrap (0 - (gC d c 2).toInt))]])) δ) (κl (b,i64.wrap (c+1),a))) δ) δ) (κr (b,a))
def xe0 (c:LA) (d:Int):StT (Nat×Int×LA) (Nat×LA):=fun (b,e,a)=>xmw c d b e a none inL inR
def xiG:=xvA.l 106 0 [] [] Tryz.f54 0 lk0 [3,10,11,12] [3] [(3,2,121)] (q4 (xPE 0 0 0) (qL 3) qI qI) (q1 (qB 0 2 121 xPv)) (fun (b,c,d,e,_) (a,_)=>(xe0 c d,(b,e,a),fun p=>(.leaf (.exit 0) [AV.osl 0 0 0 p.1] [bF 0 2 121 p.2]))) (0,[]) fun (_,c,d,_,_) _ (b,e,a)=>(((b,c,d,e,()),(a,())),xmw c d b e a none)
def xur (i:Int) (a:LA):=decide (0+i.toNat<a.length)
def xvo {T:Type} (b e:Nat) (d i:Int) (a c:LA) (δ:T) (κl:(Int×Int×LA×LA)->T) (κr:(Int×Int×LA×LA)->T):T:=br (decide (i<(↑b:Int))) (br (decide (0<=i)&&decide (i<(↑b:Int))) (br (xur i a&&xOI (Sh.int .i64) ((a.getD (0+i.toNat) .top).cells.getD 0 .top)) (br (((a.getD (0+i.toNat) .top).cells.getD 0 .top).toInt==0) (br (decide (0<=i)&&decide (i<(↑b:Int))) (br (xur i a&&xOI (Sh.int .i64) ((a.getD (0+i.toNat) .top).cells.getD 1 .top)) (κl (i64.wrap (d+((a.getD (0+i.toNat) .top).cells.getD 1 .top).toInt),i64.wrap (i+1),a,c)) δ) δ) (κr (d,i,a,c))) δ) δ) (κr (d,i,a,c))
def xjw (b d:Nat):StT (Int×Int×LA×LA) (Int×Int×LA×LA):=fun (e,i,a,c)=>xvo b d e i a c none inL inR
def xlA:=xvA.l 106 0 [] [(3,xiG.lp)] Tryz.f54 1 lk0 [3,6,7,8] [3,6,7,8] [(3,2,121),(6,2,121)] (q4 (xPE 0 0 0) (xPE 1 0 0) qI qI) (q2 (qB 0 2 121 xPv) (qB 0 2 121 xPv)) (fun (a,c,e,i,_) (b,d,_)=>(xjw a c,(e,i,b,d),fun p=>(.leaf (.exit 2) [AV.osl 0 0 0 a,AV.osl 1 0 0 c,AV.int .i64 p.1,AV.int .i64 p.2.1] [bF 0 2 121 p.2.2.1,bF 0 2 121 p.2.2.2]))) (0,0,[],[]) fun (a,c,_,_,_) _ (e,i,b,d)=>(((a,c,e,i,()),(b,d,())),xvo a c e i b d none)
def xiR (i:Int) (a:LA):=decide (0+i.toNat<a.length)
def xjR {T:Type} (b f:Nat) (e d i:Int) (a c:LA) (δ:T) (κl:(Int×Int×LA×LA)->T) (κr:(Int×Int×LA×LA)->T):T:=br (decide (i<(↑b:Int))) (br (decide (0<=i)&&decide (i<(↑b:Int))) (br (xiR i a&&xOI (Sh.int .i64) ((a.getD (0+i.toNat) .top).cells.getD 0 .top)) (br (((a.getD (0+i.toNat) .top).cells.getD 0 .top).toInt==e) (br (decide (0<=i)&&decide (i<(↑b:Int))) (br (xiR i a&&xOI (Sh.int .i64) ((a.getD (0+i.toNat) .top).cells.getD 1 .top)) (κl (i64.wrap (d+((a.getD (0+i.toNat) .top).cells.getD 1 .top).toInt),i64.wrap (i+1),a,c)) δ) δ) (κr (d,i,a,c))) δ) δ) (κr (d,i,a,c))
def xdN (b d:Nat) (e:Int):StT (Int×Int×LA×LA) (Int×Int×LA×LA):=fun (f,i,a,c)=>xjR b d e f i a c none inL inR
def xlB:=xvA.l 106 0 [] [(3,xiG.lp),(11,xlA.lp)] Tryz.f54 3 lk0 [3,6,7,8,9] [3,6,7,8,9] [(3,2,121),(6,2,121)] (q5 (xPE 0 0 0) (xPE 1 0 0) qI qI qI) (q2 (qB 0 2 121 xPv) (qB 0 2 121 xPv)) (fun (a,c,f,i,e,_) (b,d,_)=>(xdN a c e,(f,i,b,d),fun p=>(.leaf (.exit 6) [AV.osl 0 0 0 a,AV.osl 1 0 0 c,AV.int .i64 p.1,AV.int .i64 p.2.1,AV.int .i64 e] [bF 0 2 121 p.2.2.1,bF 0 2 121 p.2.2.2]))) (0,0,[],[]) fun (a,c,_,_,e,_) _ (f,i,b,d)=>(((a,c,f,i,e,()),(b,d,())),xjR a c e f i b d none)
def xhM (i:Int) (a:LA):=decide (0+i.toNat<a.length)&&xOI (Sh.int .i64) ((a.getD (0+i.toNat) .top).cells.getD 0 .top)
def xfW (i:Int) (a:LA):=((a.getD (0+i.toNat) .top).cells.getD 0 .top).toInt
def xhN (b d:Nat) (e i:Int) (a c:LA):=Iter (xdN b d (xfW i a)) (e,i,a,c)
def xiQ (b d:Nat) (e i:Int) (a c:LA):=(xhN b d e i a c).getD (0,0,[],[])
def xiO (b d:Nat) (e i:Int) (a c:LA):=(xiQ b d e i a c).snd
def xiP (b d:Nat) (e i:Int) (a c:LA):=(xiQ b d e i a c).fst
def xiN (b d:Nat) (e i:Int) (a c:LA):=(xiO b d e i a c).snd
def xiM (b c:Nat) (e i:Int) (a d:LA):=xdi c (xfW i a) (xiP b c e i a d) (xiN b c e i a d).snd
def xiL (b d:Nat) (e i:Int) (a c:LA):=(xiM b d e i a c).getD (false,(0,[]),0,[])
def xiJ (b d:Nat) (e i:Int) (a c:LA):=(xiL b d e i a c).fst
def xiK (b d:Nat) (e i:Int) (a c:LA):=(xiL b d e i a c).snd
def xiH (b d:Nat) (e i:Int) (a c:LA):=(xiK b d e i a c).fst
def xiI (b d:Nat) (e i:Int) (a c:LA):=(xiK b d e i a c).snd
def xjQ {T:Type} (b d:Nat) (e i:Int) (a c:LA) (δ:T) (κl:(Nat×Int×Int×LA×LA)->T) (κr:(Nat×LA)->T):T:=br (decide (i<(↑b:Int))) (br (decide (0<=i)&&decide (i<(↑b:Int))) (br (xhM i a) (br (decide (xfW i a<1099511627776)) (br (decide (0<=i)&&decide (i<(↑b:Int))) (br (xhM i a) (br ((xhN b d e i a c).isSome) (br ((xiM b d e i a c).isSome) (κl (br (xiJ b d e i a c) (xiH b d e i a c).fst (xiI b d e i a c).fst,xiP b d e i a c,(xiO b d e i a c).fst,(xiN b d e i a c).fst,br (xiJ b d e i a c) (xiH b d e i a c).snd (xiI b d e i a c).snd)) δ) δ) δ) δ) (κr (d,c))) δ) δ) (κr (d,c))
def xe1 (b:Nat):StT (Nat×Int×Int×LA×LA) (Nat×LA):=fun (d,e,i,a,c)=>xjQ b d e i a c none inL inR
def xus:=xvA.l 106 0 [] [(3,xiG.lp),(11,xlA.lp),(17,xlB.lp)] Tryz.f54 2 (lk1 xlB.ok) [3,6,7,8] [6] [(3,2,121),(6,2,121)] (q4 (xPE 0 0 0) (xPE 1 0 0) qI qI) (q2 (qB 0 2 121 xPv) (qB 0 2 121 xPv)) (fun (b,d,e,i,_) (a,c,_)=>(xe1 b,(d,e,i,a,c),fun p=>(.leaf (.exit 4) [AV.osl 0 0 0 p.1] [bF 0 2 121 p.2]))) (0,[]) fun (b,_,_,_,_) _ (d,e,i,a,c)=>(((b,d,e,i,()),(a,c,())),xjQ b d e i a c none)
def xsU (l:LA):=(Iter (xe0 l (↑l.length:Int)) (0,0,[])).getD (0,[])
def xk6 (l:LA):=(xsU l).fst
def xoL (l:LA):=(xsU l).snd
def xsT (l:LA):=Iter (xjw (xk6 l) 0) (0,0,srtS (xoL l),[])
def xsS (l:LA):=(xsT l).getD (0,0,[],[])
def xsQ (l:LA):=(xsS l).fst
def xsR (l:LA):=(xsS l).snd
def xsP (l:LA):=(xsR l).snd
def xua (l:LA):=xdi 0 0 (xsQ l) (xsP l).snd
def xt9 (l:LA):=(xua l).getD (false,(0,[]),0,[])
def xt7 (l:LA):=(xt9 l).snd
def xt8 (l:LA):=(xt9 l).fst
def xt5 (l:LA):=(xt7 l).snd
def xt6 (l:LA):=(xt7 l).fst
def xt4 (l:LA):=Iter (xe1 (xk6 l)) (br (xt8 l) (xt6 l).fst (xt5 l).fst,xsQ l,(xsR l).fst,(xsP l).fst,br (xt8 l) (xt6 l).snd (xt5 l).snd)
def xt3 (l:LA):=(xt4 l).getD (0,[])
def xt1 (l:LA):=(xt3 l).fst
def xt2 (l:LA):=(xt3 l).snd
def xu4 {T:Type} (l:LA) (δ:T) (κ:LA->T):T:=br ((Iter (xe0 l (↑l.length:Int)) (0,0,[])).isSome) (br ((xk6 l).beq (xoL l).length&&(decide (xk6 l<4611686018427387904)&&(xoL l).all isS)) (br ((xsT l).isSome) (br ((xua l).isSome) (br ((xt4 l).isSome) (br (decide (0+xt1 l<=(xt2 l).length)&&true) (κ (List.take (xt1 l) (List.drop 0 (xt2 l)))) δ) δ) δ) δ) δ) δ
def xjv (l:LA):=xu4 l none some
def xGL:EO:=xvA.f Tryz.func54 106 0 [] [(3,xiG.lp),(11,xlA.lp),(17,xlB.lp),(15,xus.lp)] (lks (lkC xiG.ok (lkC xlA.ok (lkC xus.ok (lkC xlB.ok lkN))))) (u1 (uL 3)) (fun (l,_) _=>xu4 l) (fun _ p=>AV.list 2 p) []
def xaS (l:LA) (n:Int) (a:LA) (e:Int) (d:Nat) (b:Int) (c:LA):=decide ((gC a b 1).toInt<n)
def xay (a:Nat):=decide (0<=i64.wrap ((↑a:Int) - 1))&&decide (i64.wrap ((↑a:Int) - 1)<(↑a:Int))
def xaf (a:Nat):Nat:=0+(i64.wrap ((↑a:Int) - 1)).toNat
def xaT (l:LA) (a:Int):=decide (i64.wrap (a+1)<(↑l.length:Int))
def xaz (b:Nat) (a:LA):=decide (xaf b<a.length)
def xaC {T:Type} (l d:LA) (b:Nat) (c:Int) (a:LA) (δ:T) (κl:(Nat×Int×LA)->T):T:=br (rmB b a 1 16) (κl (b+1,i64.wrap (c+1),a++[AV.agg [AV.int .i64 (gC d c 0).toInt,AV.int .i64 ((l.getD (i64.wrap (c+1)).toNat .top).cells.getD 0 .top).toInt]])) δ
def xaD {T:Type} (d:LA) (b:Nat) (c:Int) (a:LA) (δ:T) (κl:(Nat×Int×LA)->T):T:=br (rmB b a 1 16) (κl (b+1,i64.wrap (c+1),a++[AV.agg [AV.int .i64 (gC d c 0).toInt,AV.int .i64 1099511627776]])) δ
def xaN {T:Type} (l:LA) (n:Int) (d:LA) (e:Int) (a:Nat) (c:Int) (b:LA) (δ:T) (κl:(Nat×Int×LA)->T) (κr:(Nat×LA)->T):T:=br (decide (c<e)) (br (ixI d c) (br (ixT d c 2 [Sh.int .i64,Sh.int .i64] 0) (br (xaT l c) (br (decide (0<=i64.wrap (c+1))&&xaT l c) (br (decide ((i64.wrap (c+1)).toNat<l.length)&&xOI (Sh.int .i64) ((l.getD (i64.wrap (c+1)).toNat .top).cells.getD 0 .top)) (br (xaS l n d e a c b) (κl (a,i64.wrap (c+1),b)) (br (decide ((↑a:Int)>0)) (br (xay a) (br (xaz a b&&xOI (Sh.int .i64) ((b.getD (xaf a) .top).cells.getD 1 .top)) (br (((b.getD (xaf a) .top).cells.getD 1 .top).toInt==(gC d c 0).toInt) (br (xay a) (br (xaz a b) (κl (a,i64.wrap (c+1),b.set (xaf a) (AV.agg (List.take 1 (b.getD (xaf a) .top).cells++[AV.int .i64 ((l.getD (i64.wrap (c+1)).toNat .top).cells.getD 0 .top).toInt]++List.drop 2 (b.getD (xaf a) .top).cells)))) δ) δ) (xaC l d a c b δ κl)) δ) δ) (xaC l d a c b δ κl))) δ) δ) (br (xaS l n d e a c b) (κl (a,i64.wrap (c+1),b)) (br (decide ((↑a:Int)>0)) (br (xay a) (br (xaz a b&&xOI (Sh.int .i64) ((b.getD (xaf a) .top).cells.getD 1 .top)) (br (((b.getD (xaf a) .top).cells.getD 1 .top).toInt==(gC d c 0).toInt) (br (xay a) (br (xaz a b) (κl (a,i64.wrap (c+1),b.set (xaf a) (AV.agg (List.take 1 (b.getD (xaf a) .top).cells++[AV.int .i64 1099511627776]++List.drop 2 (b.getD (xaf a) .top).cells)))) δ) δ) (xaD d a c b δ κl)) δ) δ) (xaD d a c b δ κl)))) δ) δ) (κr (a,b))
def xam (l:LA) (n:Int) (c:LA) (d:Int):StT (Nat×Int×LA) (Nat×LA):=fun (b,e,a)=>xaN l n c d b e a none inL inR
def xo0:=xGL.l 62 0 [] [] Tryz.f53 0 lk0 [0,1,5,10,11,12] [5] [(5,2,50)] (q6 (qL 2) qI (xPE 0 0 0) (qL 2) qI qI) (q1 (qB 0 2 50 xPv)) (fun (l,n,b,c,d,e,_) (a,_)=>(xam l n c d,(b,e,a),fun p=>(.leaf (.exit 0) [AV.osl 0 0 0 p.1] [bF 0 2 50 p.2]))) (0,[]) fun (l,n,_,c,d,_,_) _ (b,e,a)=>(((l,n,b,c,d,e,()),(a,())),xaN l n c d b e a none)
def xm8 (l:LA) (n:Int):=(Iter (xam l n l (↑l.length:Int)) (0,0,[])).getD (0,[])
def xm6 (l:LA) (n:Int):=(xm8 l n).fst
def xm7 (l:LA) (n:Int):=(xm8 l n).snd
def xoK {T:Type} (l:LA) (n:Int) (δ:T) (κ:LA->T):T:=br ((Iter (xam l n l (↑l.length:Int)) (0,0,[])).isSome) (br (decide (0+xm6 l n<=(xm7 l n).length)&&true) (κ (List.take (xm6 l n) (List.drop 0 (xm7 l n)))) δ) δ
def xf0 (l:LA) (n:Int):=xoK l n none some
def xCe:EO:=xGL.f Tryz.func53 62 0 [] [(3,xo0.lp)] (lk1 xo0.ok) (u2 (uL 2) uI) (fun (l,n,_) _=>xoK l n) (fun _ p=>AV.list 2 p) []
def xkr {T:Type} (b e:LA) (f:Int) (c:Nat) (a:Int) (d:LA) (δ:T) (κl:(Nat×Int×LA)->T) (κr:(Nat×LA)->T):T:=br (decide (a<f)) (br (decide (0<=a)&&decide (a<e.length)) (br (decide (a.toNat<e.length)&&((e.getD a.toNat .top).cells.length==2&&xOP [Sh.int .i64,Sh.int .i64] (e.getD a.toNat .top).cells 0)) (br (xec ((e.getD a.toNat .top).cells.getD 0 .top).toInt ((e.getD a.toNat .top).cells.getD 1 .top).toInt) (br (c==d.length&&(decide ((c+2)*24<=140737488355328)&&decide (c+2<=4611686018427387904))) (κl (c+2,i64.wrap (a+1),d++[AV.agg [AV.int .i64 ((e.getD a.toNat .top).cells.getD 0 .top).toInt,AV.int .i64 1,AV.int .i64 0],AV.agg [AV.int .i64 ((e.getD a.toNat .top).cells.getD 1 .top).toInt,AV.int .i64 (-1),AV.int .i64 0]])) δ) (κl (c,i64.wrap (a+1),d))) δ) δ) (κr (c,d))
def xbU (b d:LA) (e:Int):StT (Nat×Int×LA) (Nat×LA):=fun (c,f,a)=>xkr b d e c f a none inL inR
def xm5:=xCe.l 49 0 [] [] Tryz.f87 0 lk0 [1,5,10,11,12] [1,5] [(5,3,132)] (q5 (qL 2) (xPE 0 0 0) (qL 2) qI qI) (q1 (qB 0 3 132 xPv)) (fun (b,c,d,e,f,_) (a,_)=>(xbU b d e,(c,f,a),fun p=>(.leaf (.exit 0) [AV.list 2 b,AV.osl 0 0 0 p.1] [bF 0 3 132 p.2]))) (0,[]) fun (b,_,d,e,_,_) _ (c,f,a)=>(((b,c,d,e,f,()),(a,())),xkr b d e c f a none)
def xks {T:Type} (d:LA) (e:Int) (b:Nat) (a:Int) (c:LA) (δ:T) (κl:(Nat×Int×LA)->T) (κr:(Nat×LA)->T):T:=br (decide (a<e)) (br (decide (0<=a)&&decide (a<d.length)) (br (decide (a.toNat<d.length)&&((d.getD a.toNat .top).cells.length==2&&xOP [Sh.int .i64,Sh.int .i64] (d.getD a.toNat .top).cells 0)) (br (xec ((d.getD a.toNat .top).cells.getD 0 .top).toInt ((d.getD a.toNat .top).cells.getD 1 .top).toInt) (br (b==c.length&&(decide ((b+2)*24<=140737488355328)&&decide (b+2<=4611686018427387904))) (κl (b+2,i64.wrap (a+1),c++[AV.agg [AV.int .i64 ((d.getD a.toNat .top).cells.getD 0 .top).toInt,AV.int .i64 0,AV.int .i64 1],AV.agg [AV.int .i64 ((d.getD a.toNat .top).cells.getD 1 .top).toInt,AV.int .i64 0,AV.int .i64 (-1)]])) δ) (κl (b,i64.wrap (a+1),c))) δ) δ) (κr (b,c))
def xd2 (c:LA) (d:Int):StT (Nat×Int×LA) (Nat×LA):=fun (b,e,a)=>xks c d b e a none inL inR
def xsL:=xCe.l 49 0 [] [(3,xm5.lp)] Tryz.f87 1 lk0 [5,28,29,30] [5] [(5,3,132)] (q4 (xPE 0 0 0) (qL 2) qI qI) (q1 (qB 0 3 132 xPv)) (fun (b,c,d,e,_) (a,_)=>(xd2 c d,(b,e,a),fun p=>(.leaf (.exit 2) [AV.osl 0 0 0 p.1] [bF 0 3 132 p.2]))) (0,[]) fun (_,c,d,_,_) _ (b,e,a)=>(((b,c,d,e,()),(a,())),xks c d b e a none)
def xmv (a b:LA):=(Iter (xbU b a (↑a.length:Int)) (0,0,[])).getD (0,[])
def xmu (a b:LA):=Iter (xd2 b (↑b.length:Int)) ((xmv a b).fst,0,(xmv a b).snd)
def xmt (a b:LA):=(xmu a b).getD (0,[])
def xhg (a b:LA):=(xmt a b).fst
def xhh (a b:LA):=(xmt a b).snd
def xsM {T:Type} (a b:LA) (δ:T) (κ:LA->T):T:=br ((Iter (xbU b a (↑a.length:Int)) (0,0,[])).isSome) (br ((xmu a b).isSome) (br ((xhg a b).beq (xhh a b).length&&(decide (xhg a b<4611686018427387904)&&(xhh a b).all isE)) (br (decide (0+xhg a b<=(srtE (xhh a b)).length)&&true) (κ (List.take (xhg a b) (List.drop 0 (srtE (xhh a b))))) δ) δ) δ) δ
def xhF (a b:LA):=xsM a b none some
def xLk:EO:=xCe.f Tryz.func87 49 0 [] [(3,xm5.lp),(9,xsL.lp)] (lks (lkC xm5.ok (lkC xsL.ok lkN))) (u2 (uL 2) (uL 2)) (fun (a,b,_) _=>xsM a b) (fun _ p=>AV.list 3 p) []
def xnm (a b:Bool):Bool:=((a))
def xEC {T:Type} (a b:Bool) (δ:T) (κ:Bool->T):T:=κ (a)
def xLl:EO:=xLk.fT Tryz.func74 6 0 [] [] lk0 (fun (a,b,_)=>xEC a b none) (u2 (sEq pBool) (sEq pBool)) (fun (a,b,_)=>xnm a b) (fun _ p=>(AV.bool p))
def xex (a b:Bool):Bool:=(br (a) ((b)) ((false)))
def xwb {T:Type} (a b:Bool) (δ:T) (κ:Bool->T):T:=br (a) (κ (b)) (κ (false))
def xCf:EO:=xLl.fT Tryz.func57 9 0 [] [] lk0 (fun (a,b,_)=>xwb a b none) (u2 (sEq pBool) (sEq pBool)) (fun (a,b,_)=>xex a b) (fun _ p=>(AV.bool p))
def xk5 (l:LA) (i:Int):=decide (0<=i)&&decide (i<l.length)
def xrC {T:Type} (l:LA) (e:Nat) (d b c i:Int) (a:LA) (δ:T) (κl:(Int×Int×Int×LA)->T) (κr:(Int×Int×Int×LA)->T):T:=br (decide (i<l.length)) (br (xk5 l i) (br (decide (i.toNat<l.length)&&xOI (Sh.int .i64) ((l.getD i.toNat .top).cells.getD 0 .top)) (br (((l.getD i.toNat .top).cells.getD 0 .top).toInt==d) (br (xk5 l i) (br (decide (i.toNat<l.length)&&xOI (Sh.int .i64) ((l.getD i.toNat .top).cells.getD 1 .top)) (br (xk5 l i) (br (decide (i.toNat<l.length)&&xOI (Sh.int .i64) ((l.getD i.toNat .top).cells.getD 2 .top)) (κl (i64.wrap (b+((l.getD i.toNat .top).cells.getD 1 .top).toInt),i64.wrap (c+((l.getD i.toNat .top).cells.getD 2 .top).toInt),i64.wrap (i+1),a)) δ) δ) δ) δ) (κr (b,c,i,a))) δ) δ) (κr (b,c,i,a))
def xju (l:LA) (b:Nat) (c:Int):StT (Int×Int×Int×LA) (Int×Int×Int×LA):=fun (d,e,i,a)=>xrC l b c d e i a none inL inR
def xhL:=xCf.l 92 0 [] [] Tryz.f56 1 lk0 [2,7,8,9,10,11,12] [2,7,8,9,10,11,12] [(8,2,50)] (q7 (xO6 74 xPt) (qL 3) (xPE 0 0 0) qI qI qI qI) (q1 (qB 0 2 50 xPv)) (fun (_,l,a,d,e,i,c,_) (b,_)=>(xju l a c,(d,e,i,b),fun p=>(.leaf (.exit 2) [AV.func 74 [],AV.list 3 l,AV.osl 0 0 0 a,AV.int .i64 p.1,AV.int .i64 p.2.1,AV.int .i64 p.2.2.1,AV.int .i64 c] [bF 0 2 50 p.2.2.2]))) (0,0,0,[]) fun (_,l,a,_,_,_,c,_) _ (d,e,i,b)=>((((),l,a,d,e,i,c,()),(b,())),xrC l a c d e i b none)
def xhK (a:Nat):=decide (0<=i64.wrap ((↑a:Int) - 1))&&decide (i64.wrap ((↑a:Int) - 1)<(↑a:Int))
def xox (l:LA) (b:Nat) (d e i c:Int) (a:LA):=(Iter (xju l b c) (d,e,i,a)).getD (0,0,0,[])
def xaH (a:Nat):Nat:=0+(i64.wrap ((↑a:Int) - 1)).toNat
def xqR (l:LA) (b:Nat) (d e i c:Int) (a:LA):=(xox l b d e i c a).snd
def xbr (l:LA) (b:Nat) (d e i c:Int) (a:LA):=(xox l b d e i c a).fst
def xbq (l:LA) (b:Nat) (d e i c:Int) (a:LA):=(xqR l b d e i c a).fst
def xqQ (l:LA) (b:Nat) (d e i c:Int) (a:LA):=(xqR l b d e i c a).snd
def xae (l:LA) (b:Nat) (d e i c:Int) (a:LA):=(xqQ l b d e i c a).snd
def xqO (l:LA) (b:Nat) (d e i c:Int) (a:LA):=xnm (decide (xbr l b d e i c a>0)) (decide (xbq l b d e i c a>0))
def xai (l:LA) (b:Nat) (d e i c:Int) (a:LA):=(xqQ l b d e i c a).fst
def xhJ (l:LA) (a:Nat) (d e i c:Int) (b:LA):=decide (xaH a<(xae l a d e i c b).length)
def xqP (l:LA) (b:Nat) (d e i c:Int) (a:LA):=decide (xai l b d e i c a<l.length)
def xrB {T:Type} (l:LA) (a:Nat) (d e i c:Int) (b:LA) (δ:T) (κl:(Nat×Int×Int×Int×Int×LA)->T) (κr:(Nat×LA)->T):T:=br (decide (c<1099511627776)) (br ((Iter (xju l a c) (d,e,i,b)).isSome) (br (xqP l a d e i c b) (br (decide (0<=xai l a d e i c b)&&xqP l a d e i c b) (br (decide ((xai l a d e i c b).toNat<l.length)&&xOI (Sh.int .i64) ((l.getD (xai l a d e i c b).toNat .top).cells.getD 0 .top)) (br (xqO l a d e i c b) (br (decide ((↑a:Int)>0)) (br (xhK a) (br (xhJ l a d e i c b&&xOI (Sh.int .i64) (((xae l a d e i c b).getD (xaH a) .top).cells.getD 1 .top)) (br ((((xae l a d e i c b).getD (xaH a) .top).cells.getD 1 .top).toInt==c) (br (xhK a) (br (xhJ l a d e i c b) (κl (a,xbr l a d e i c b,xbq l a d e i c b,xai l a d e i c b,((l.getD (xai l a d e i c b).toNat .top).cells.getD 0 .top).toInt,(xae l a d e i c b).set (xaH a) (AV.agg (List.take 1 ((xae l a d e i c b).getD (xaH a) .top).cells++[AV.int .i64 ((l.getD (xai l a d e i c b).toNat .top).cells.getD 0 .top).toInt]++List.drop 2 ((xae l a d e i c b).getD (xaH a) .top).cells)))) δ) δ) (br (a==(xae l a d e i c b).length&&(decide ((a+1)*16<=140737488355328)&&decide (a+1<=4611686018427387904))) (κl (a+1,xbr l a d e i c b,xbq l a d e i c b,xai l a d e i c b,((l.getD (xai l a d e i c b).toNat .top).cells.getD 0 .top).toInt,xae l a d e i c b++[AV.agg [AV.int .i64 c,AV.int .i64 ((l.getD (xai l a d e i c b).toNat .top).cells.getD 0 .top).toInt]])) δ)) δ) δ) (br (a==(xae l a d e i c b).length&&(decide ((a+1)*16<=140737488355328)&&decide (a+1<=4611686018427387904))) (κl (a+1,xbr l a d e i c b,xbq l a d e i c b,xai l a d e i c b,((l.getD (xai l a d e i c b).toNat .top).cells.getD 0 .top).toInt,xae l a d e i c b++[AV.agg [AV.int .i64 c,AV.int .i64 ((l.getD (xai l a d e i c b).toNat .top).cells.getD 0 .top).toInt]])) δ)) (κl (a,xbr l a d e i c b,xbq l a d e i c b,xai l a d e i c b,((l.getD (xai l a d e i c b).toNat .top).cells.getD 0 .top).toInt,xae l a d e i c b))) δ) δ) (br (xqO l a d e i c b) (br (decide ((↑a:Int)>0)) (br (xhK a) (br (xhJ l a d e i c b&&xOI (Sh.int .i64) (((xae l a d e i c b).getD (xaH a) .top).cells.getD 1 .top)) (br ((((xae l a d e i c b).getD (xaH a) .top).cells.getD 1 .top).toInt==c) (br (xhK a) (br (xhJ l a d e i c b) (κl (a,xbr l a d e i c b,xbq l a d e i c b,xai l a d e i c b,1099511627776,(xae l a d e i c b).set (xaH a) (AV.agg (List.take 1 ((xae l a d e i c b).getD (xaH a) .top).cells++[AV.int .i64 1099511627776]++List.drop 2 ((xae l a d e i c b).getD (xaH a) .top).cells)))) δ) δ) (br (a==(xae l a d e i c b).length&&(decide ((a+1)*16<=140737488355328)&&decide (a+1<=4611686018427387904))) (κl (a+1,xbr l a d e i c b,xbq l a d e i c b,xai l a d e i c b,1099511627776,xae l a d e i c b++[AV.agg [AV.int .i64 c,AV.int .i64 1099511627776]])) δ)) δ) δ) (br (a==(xae l a d e i c b).length&&(decide ((a+1)*16<=140737488355328)&&decide (a+1<=4611686018427387904))) (κl (a+1,xbr l a d e i c b,xbq l a d e i c b,xai l a d e i c b,1099511627776,xae l a d e i c b++[AV.agg [AV.int .i64 c,AV.int .i64 1099511627776]])) δ)) (κl (a,xbr l a d e i c b,xbq l a d e i c b,xai l a d e i c b,1099511627776,xae l a d e i c b)))) δ) (κr (a,b))
def xoJ (l:LA):StT (Nat×Int×Int×Int×Int×LA) (Nat×LA):=fun (b,d,e,i,c,a)=>xrB l b d e i c a none inL inR
def xqN:=xCf.l 92 0 [] [(6,xhL.lp)] Tryz.f56 0 (lk1 xhL.ok) [2,7,8,9,10,11,12] [8] [(8,2,50)] (q7 (xO6 74 xPt) (qL 3) (xPE 0 0 0) qI qI qI qI) (q1 (qB 0 2 50 xPv)) (fun (_,l,b,d,e,i,c,_) (a,_)=>(xoJ l,(b,d,e,i,c,a),fun p=>(.leaf (.exit 0) [AV.osl 0 0 0 p.1] [bF 0 2 50 p.2]))) (0,[]) fun (_,l,_,_,_,_,_,_) _ (b,d,e,i,c,a)=>((((),l,b,d,e,i,c,()),(a,())),xrB l b d e i c a none)
def xtv (a b:LA):=Iter (xoJ ((xhF a b).getD [])) (0,0,0,0,0,[])
def xtu (a b:LA):=(xtv a b).getD (0,[])
def xts (a b:LA):=(xtu a b).snd
def xtt (a b:LA):=(xtu a b).fst
def xuq {T:Type} (a b:LA) (δ:T) (κ:LA->T):T:=br ((xhF a b).isSome) (br ((xtv a b).isSome) (br (decide (0+xtt a b<=(xts a b).length)&&true) (κ (List.take (xtt a b) (List.drop 0 (xts a b)))) δ) δ) δ
def xsO (a b:LA):=xuq a b none some
def xLm:EO:=xCf.f Tryz.func56 92 0 [] [(6,xhL.lp),(5,xqN.lp)] (lks (lkC xqN.ok (lkC xhL.ok lkN))) (u3 (uL 2) (uL 2) (sEq (xO6 (74:FuncId) xPt))) (fun (a,b,_,_) _=>xuq a b) (fun _ p=>AV.list 2 p) []
def xwc {T:Type} (l:LA) (δ:T) (κ:LA->T):T:=br ((xsO l []).isSome) (κ ((xsO l []).getD [])) δ
def xnl (l:LA):=xwc l none some
def xCg:EO:=xLm.f Tryz.func43 5 0 [] [] lk0 (u1 (uL 2)) (fun (l,_) _=>xwc l) (fun _ p=>AV.list 2 p) []
def xk4 (l:LA) (i:Int):=decide (0<=i)&&decide (i<l.length)
def xrA {T:Type} (l:LA) (e:Nat) (d b c i:Int) (a:LA) (δ:T) (κl:(Int×Int×Int×LA)->T) (κr:(Int×Int×Int×LA)->T):T:=br (decide (i<l.length)) (br (xk4 l i) (br (decide (i.toNat<l.length)&&xOI (Sh.int .i64) ((l.getD i.toNat .top).cells.getD 0 .top)) (br (((l.getD i.toNat .top).cells.getD 0 .top).toInt==d) (br (xk4 l i) (br (decide (i.toNat<l.length)&&xOI (Sh.int .i64) ((l.getD i.toNat .top).cells.getD 1 .top)) (br (xk4 l i) (br (decide (i.toNat<l.length)&&xOI (Sh.int .i64) ((l.getD i.toNat .top).cells.getD 2 .top)) (κl (i64.wrap (b+((l.getD i.toNat .top).cells.getD 1 .top).toInt),i64.wrap (c+((l.getD i.toNat .top).cells.getD 2 .top).toInt),i64.wrap (i+1),a)) δ) δ) δ) δ) (κr (b,c,i,a))) δ) δ) (κr (b,c,i,a))
def xjt (l:LA) (b:Nat) (c:Int):StT (Int×Int×Int×LA) (Int×Int×Int×LA):=fun (d,e,i,a)=>xrA l b c d e i a none inL inR
def xhI:=xCg.l 92 0 [] [] Tryz.f56 1 lk0 [2,7,8,9,10,11,12] [2,7,8,9,10,11,12] [(8,2,50)] (q7 (xO6 57 xPt) (qL 3) (xPE 0 0 0) qI qI qI qI) (q1 (qB 0 2 50 xPv)) (fun (_,l,a,d,e,i,c,_) (b,_)=>(xjt l a c,(d,e,i,b),fun p=>(.leaf (.exit 2) [AV.func 57 [],AV.list 3 l,AV.osl 0 0 0 a,AV.int .i64 p.1,AV.int .i64 p.2.1,AV.int .i64 p.2.2.1,AV.int .i64 c] [bF 0 2 50 p.2.2.2]))) (0,0,0,[]) fun (_,l,a,_,_,_,c,_) _ (d,e,i,b)=>((((),l,a,d,e,i,c,()),(b,())),xrA l a c d e i b none)
def xhH (a:Nat):=decide (0<=i64.wrap ((↑a:Int) - 1))&&decide (i64.wrap ((↑a:Int) - 1)<(↑a:Int))
def xoZ (l:LA) (b:Nat) (d e i c:Int) (a:LA):=(Iter (xjt l b c) (d,e,i,a)).getD (0,0,0,[])
def xaG (a:Nat):Nat:=0+(i64.wrap ((↑a:Int) - 1)).toNat
def xbp (l:LA) (b:Nat) (d e i c:Int) (a:LA):=(xoZ l b d e i c a).fst
def xqM (l:LA) (b:Nat) (d e i c:Int) (a:LA):=(xoZ l b d e i c a).snd
def xqL (l:LA) (b:Nat) (d e i c:Int) (a:LA):=(xqM l b d e i c a).snd
def xbo (l:LA) (b:Nat) (d e i c:Int) (a:LA):=(xqM l b d e i c a).fst
def xad (l:LA) (b:Nat) (d e i c:Int) (a:LA):=(xqL l b d e i c a).snd
def xqJ (l:LA) (b:Nat) (d e i c:Int) (a:LA):=xex (decide (xbp l b d e i c a>0)) (decide (xbo l b d e i c a>0))
def xah (l:LA) (b:Nat) (d e i c:Int) (a:LA):=(xqL l b d e i c a).fst
def xhG (l:LA) (a:Nat) (d e i c:Int) (b:LA):=decide (xaG a<(xad l a d e i c b).length)
def xqK (l:LA) (b:Nat) (d e i c:Int) (a:LA):=decide (xah l b d e i c a<l.length)
def xrz {T:Type} (l:LA) (a:Nat) (d e i c:Int) (b:LA) (δ:T) (κl:(Nat×Int×Int×Int×Int×LA)->T) (κr:(Nat×LA)->T):T:=br (decide (c<1099511627776)) (br ((Iter (xjt l a c) (d,e,i,b)).isSome) (br (xqK l a d e i c b) (br (decide (0<=xah l a d e i c b)&&xqK l a d e i c b) (br (decide ((xah l a d e i c b).toNat<l.length)&&xOI (Sh.int .i64) ((l.getD (xah l a d e i c b).toNat .top).cells.getD 0 .top)) (br (xqJ l a d e i c b) (br (decide ((↑a:Int)>0)) (br (xhH a) (br (xhG l a d e i c b&&xOI (Sh.int .i64) (((xad l a d e i c b).getD (xaG a) .top).cells.getD 1 .top)) (br ((((xad l a d e i c b).getD (xaG a) .top).cells.getD 1 .top).toInt==c) (br (xhH a) (br (xhG l a d e i c b) (κl (a,xbp l a d e i c b,xbo l a d e i c b,xah l a d e i c b,((l.getD (xah l a d e i c b).toNat .top).cells.getD 0 .top).toInt,(xad l a d e i c b).set (xaG a) (AV.agg (List.take 1 ((xad l a d e i c b).getD (xaG a) .top).cells++[AV.int .i64 ((l.getD (xah l a d e i c b).toNat .top).cells.getD 0 .top).toInt]++List.drop 2 ((xad l a d e i c b).getD (xaG a) .top).cells)))) δ) δ) (br (a==(xad l a d e i c b).length&&(decide ((a+1)*16<=140737488355328)&&decide (a+1<=4611686018427387904))) (κl (a+1,xbp l a d e i c b,xbo l a d e i c b,xah l a d e i c b,((l.getD (xah l a d e i c b).toNat .top).cells.getD 0 .top).toInt,xad l a d e i c b++[AV.agg [AV.int .i64 c,AV.int .i64 ((l.getD (xah l a d e i c b).toNat .top).cells.getD 0 .top).toInt]])) δ)) δ) δ) (br (a==(xad l a d e i c b).length&&(decide ((a+1)*16<=140737488355328)&&decide (a+1<=4611686018427387904))) (κl (a+1,xbp l a d e i c b,xbo l a d e i c b,xah l a d e i c b,((l.getD (xah l a d e i c b).toNat .top).cells.getD 0 .top).toInt,xad l a d e i c b++[AV.agg [AV.int .i64 c,AV.int .i64 ((l.getD (xah l a d e i c b).toNat .top).cells.getD 0 .top).toInt]])) δ)) (κl (a,xbp l a d e i c b,xbo l a d e i c b,xah l a d e i c b,((l.getD (xah l a d e i c b).toNat .top).cells.getD 0 .top).toInt,xad l a d e i c b))) δ) δ) (br (xqJ l a d e i c b) (br (decide ((↑a:Int)>0)) (br (xhH a) (br (xhG l a d e i c b&&xOI (Sh.int .i64) (((xad l a d e i c b).getD (xaG a) .top).cells.getD 1 .top)) (br ((((xad l a d e i c b).getD (xaG a) .top).cells.getD 1 .top).toInt==c) (br (xhH a) (br (xhG l a d e i c b) (κl (a,xbp l a d e i c b,xbo l a d e i c b,xah l a d e i c b,1099511627776,(xad l a d e i c b).set (xaG a) (AV.agg (List.take 1 ((xad l a d e i c b).getD (xaG a) .top).cells++[AV.int .i64 1099511627776]++List.drop 2 ((xad l a d e i c b).getD (xaG a) .top).cells)))) δ) δ) (br (a==(xad l a d e i c b).length&&(decide ((a+1)*16<=140737488355328)&&decide (a+1<=4611686018427387904))) (κl (a+1,xbp l a d e i c b,xbo l a d e i c b,xah l a d e i c b,1099511627776,xad l a d e i c b++[AV.agg [AV.int .i64 c,AV.int .i64 1099511627776]])) δ)) δ) δ) (br (a==(xad l a d e i c b).length&&(decide ((a+1)*16<=140737488355328)&&decide (a+1<=4611686018427387904))) (κl (a+1,xbp l a d e i c b,xbo l a d e i c b,xah l a d e i c b,1099511627776,xad l a d e i c b++[AV.agg [AV.int .i64 c,AV.int .i64 1099511627776]])) δ)) (κl (a,xbp l a d e i c b,xbo l a d e i c b,xah l a d e i c b,1099511627776,xad l a d e i c b)))) δ) (κr (a,b))
def xoI (l:LA):StT (Nat×Int×Int×Int×Int×LA) (Nat×LA):=fun (b,d,e,i,c,a)=>xrz l b d e i c a none inL inR
def xqI:=xCg.l 92 0 [] [(6,xhI.lp)] Tryz.f56 0 (lk1 xhI.ok) [2,7,8,9,10,11,12] [8] [(8,2,50)] (q7 (xO6 57 xPt) (qL 3) (xPE 0 0 0) qI qI qI qI) (q1 (qB 0 2 50 xPv)) (fun (_,l,b,d,e,i,c,_) (a,_)=>(xoI l,(b,d,e,i,c,a),fun p=>(.leaf (.exit 0) [AV.osl 0 0 0 p.1] [bF 0 2 50 p.2]))) (0,[]) fun (_,l,_,_,_,_,_,_) _ (b,d,e,i,c,a)=>((((),l,b,d,e,i,c,()),(a,())),xrz l b d e i c a none)
def xtr (a b:LA):=Iter (xoI ((xhF a b).getD [])) (0,0,0,0,0,[])
def xtq (a b:LA):=(xtr a b).getD (0,[])
def xto (a b:LA):=(xtq a b).snd
def xtp (a b:LA):=(xtq a b).fst
def xup {T:Type} (a b:LA) (δ:T) (κ:LA->T):T:=br ((xhF a b).isSome) (br ((xtr a b).isSome) (br (decide (0+xtp a b<=(xto a b).length)&&true) (κ (List.take (xtp a b) (List.drop 0 (xto a b)))) δ) δ) δ
def xsN (a b:LA):=xup a b none some
def xLn:EO:=xCg.f Tryz.func56 92 0 [] [(6,xhI.lp),(5,xqI.lp)] (lks (lkC xqI.ok (lkC xhI.ok lkN))) (u3 (uL 2) (uL 2) (sEq (xO6 (57:FuncId) xPt))) (fun (a,b,_,_) _=>xup a b) (fun _ p=>AV.list 2 p) []
def xm4 {T:Type} (a b:LA) (δ:T) (κ:LA->T):T:=br ((xsN a b).isSome) (κ ((xsN a b).getD [])) δ
def xiF (a b:LA):=xm4 a b none some
def xCh:EO:=xLn.f Tryz.func32 8 0 [] [] lk0 (u2 (uL 2) (uL 2)) (fun (a,b,_) _=>xm4 a b) (fun _ p=>AV.list 2 p) []
def xfE {T:Type} (h:LA) (i j:Int) (e:LA) (f:Int) (d:Nat) (c:Int) (a b g:LA) (δ:T) (κl:(Nat×Int×LA×LA×LA)->T) (κr:(Nat×LA)->T):T:=br (decide (c<f)) (br (ixI e c) (br (ixT e c 2 [Sh.int .i64,Sh.int .i64] 0) (br (decide (b.length*32<=140737488355328)&&decide (b.length<=4611686018427387904)) (br (decide (0+b.length<=b.length)&&true&&true&&true&&true) (br (rmB d a 1 40) (κl (d+1,i64.wrap (c+1),a++[AV.agg [AV.list 3 (List.take b.length (List.drop 0 b)),AV.int .i64 (gC e c 0).toInt,AV.int .i64 (gC e c 1).toInt]],b,g)) δ) δ) δ) δ) δ) (κr (d,a))
def xbI (c:LA) (d e:Int) (f:LA) (g:Int):StT (Nat×Int×LA×LA×LA) (Nat×LA):=fun (b,h,a,i,j)=>xfE c d e f g b h a i j none inL inR
def xe3:=xCh.l 38 0 [58] [] Tryz.f55 1 lk0 [1,5,7,11,12,13,20,21,22] [1,5,11,12,13] [(5,3,58)] (q9 (xO6 43 xPt) (xPE 0 0 0) (xPF 1 0 0 0) (qL 2) qI qI (qL 2) qI qI) (q2 (qB 0 3 58 xPv) (qB 0 2 128 (q1 (xPG (q2 (qL 3) (qL 2)))))) (fun (_,b,_,c,d,e,f,g,h,_) (a,((i,j,_),_),_)=>(xbI c d e f g,(b,h,a,i,j),fun p=>(.leaf (.exit 2) [AV.func 43 [],AV.osl 0 0 0 p.1,AV.list 2 c,AV.int .i64 d,AV.int .i64 e] [bF 0 3 58 p.2]))) (0,[]) fun (_,_,_,c,d,e,f,g,_,_) _ (b,h,a,i,j)=>((((),b,(),c,d,e,f,g,h,()),(a,((i,j,()),()),())),xfE c d e f g b h a i j none)
def xhS (a:LA) (e:Int) (d:Nat) (b:Int) (c:LA):=Iter (xbI a e b ((xnl (gC a b 1).toList).getD []) (↑((xnl (gC a b 1).toList).getD []).length:Int)) (d,0,c,(gC a b 0).toList,(gC a b 1).toList)
def xhR (c:LA) (d:Int) (b:Nat) (e:Int) (a:LA):=(xhS c d b e a).getD (0,[])
def xfD {T:Type} (d:LA) (e:Int) (c:Nat) (b:Int) (a:LA) (δ:T) (κl:(Nat×Int×LA)->T) (κr:(Nat×LA)->T):T:=br (decide (b<e)) (br (ixI d b) (br (ixT d b 2 [Sh.list 3,Sh.list 2] 0) (br ((xnl (gC d b 1).toList).isSome) (br ((xhS d e c b a).isSome) (κl ((xhR d e c b a).fst,i64.wrap (b+1),(xhR d e c b a).snd)) δ) δ) δ) δ) (κr (c,a))
def xco (c:LA) (d:Int):StT (Nat×Int×LA) (Nat×LA):=fun (b,e,a)=>xfD c d b e a none inL inR
def xl7:=xCh.l 38 0 [58] [(6,xe3.lp)] Tryz.f55 0 (lk1 xe3.ok) [1,5,11,12,13] [5] [(5,3,58)] (q5 (xO6 43 xPt) (xPE 0 0 0) (qL 2) qI qI) (q1 (qB 0 3 58 xPv)) (fun (_,b,c,d,e,_) (a,_)=>(xco c d,(b,e,a),fun p=>(.leaf (.exit 0) [AV.osl 0 0 0 p.1] [bF 0 3 58 p.2]))) (0,[]) fun (_,_,c,d,_,_) _ (b,e,a)=>((((),b,c,d,e,()),(a,())),xfD c d b e a none)
def xjx (l:LA):=Iter (xco ((xjH l).getD []) (↑((xjH l).getD []).length:Int)) (0,0,[])
def xjZ (l:LA):=(xjx l).getD (0,[])
def xjX (l:LA):=(xjZ l).fst
def xjY (l:LA):=(xjZ l).snd
def xkB {T:Type} (l:LA) (δ:T) (κ:LA->T):T:=br ((xjH l).isSome) (br ((xjx l).isSome) (br (decide (0+xjX l<=(xjY l).length)&&true) (κ (List.take (xjX l) (List.drop 0 (xjY l)))) δ) δ) δ
def xmB (l:LA):=xkB l none some
def xLo:EO:=xCh.f Tryz.func55 38 0 [58] [(6,xe3.lp),(3,xl7.lp)] (lks (lkC xl7.ok (lkC xe3.ok lkN))) (u2 (uL 3) (sEq (xO6 (43:FuncId) xPt))) (fun (l,_,_) _=>xkB l) (fun _ p=>AV.list 3 p) []
def xpg {T:Type} (l:LA) (δ:T) (κ:LA->T):T:=br ((xmB l).isSome) (κ ((xmB l).getD [])) δ
def xkA (l:LA):=xpg l none some
def xGM:EO:=xLo.f Tryz.func31 5 0 [] [] lk0 (u1 (uL 3)) (fun (l,_) _=>xpg l) (fun _ p=>AV.list 3 p) []
def xhv (b a:Bool):Int:=(br (b) (((-1))) (br (a) ((1)) ((0))))
def xDu {T:Type} (b a:Bool) (δ:T) (κ:Int->T):T:=br (b) (κ ((-1))) (br (a) (κ (1)) (κ (0)))
def xLp:EO:=xGM.fT Tryz.func73 7 0 [] [] lk0 (fun (b,a,_)=>xDu b a none) (u2 (sEq pBool) (sEq pBool)) (fun (b,a,_)=>xhv b a) (fun _ p=>(AV.int .i64 p))
def xhd (a b:Int) (c:List UInt8) (d e:Int) (f:List UInt8):Int:=(br (a != d) ((xhv (decide (a<d)) (decide (a>d)))) (br (b != e) ((xhv (decide (b<e)) (decide (b>e)))) ((xhv (Op.bytesLess c f) !(Op.bytesLess c f || c==f)))))
def xzw {T:Type} (a b:Int) (c:List UInt8) (d e:Int) (f:List UInt8) (δ:T) (κ:Int->T):T:=br (a != d) (κ (xhv (decide (a<d)) (decide (a>d)))) (br (b != e) (κ (xhv (decide (b<e)) (decide (b>e)))) (κ (xhv (Op.bytesLess c f) !(Op.bytesLess c f || c==f))))
def xGN:EO:=xLp.fT Tryz.func42 48 0 [] [] lk0 (fun ((a,b,c,_),(d,e,f,_),_)=>xzw a b c d e f none) (u2 (xPJ (u3 uI uI (sEq pStr))) (xPJ (u3 uI uI (sEq pStr)))) (fun ((a,b,c,_),(d,e,f,_),_)=>xhd a b c d e f) (fun _ p=>(AV.int .i64 p))
def xdy (a b:LA) (i:Int):=xhd (gC a i 0).toInt (gC a i 1).toInt (gC a i 2).toStr (gC b i 0).toInt (gC b i 1).toInt (gC b i 2).toStr
def xdS {T:Type} (a b:LA) (i:Int) (δ:T) (κl:(Int)->T) (κr:(Bool×(Int)×(Unit))->T):T:=br (decide (i<a.length)) (br (decide (i<b.length)) (br (ixI a i) (br (ixT a i 3 [Sh.int .i64,Sh.int .i64,Sh.str] 0) (br (ixI b i) (br (ixT b i 3 [Sh.int .i64,Sh.int .i64,Sh.str] 0) (br (xdy a b i != 0) (κr (true,(xdy a b i),())) (κl (i64.wrap (i+1)))) δ) δ) δ) δ) (κr (false,0,()))) (κr (false,0,()))
def xaQ (a b:LA):StT (Int) (Bool×(Int)×(Unit)):=fun (i)=>xdS a b i none inL inR
def xoV:=xGN.l 41 0 [] [] Tryz.f17 0 lk0 [0,1,5] [0,1,4] [] (q3 (qL 3) (qL 3) qI) xPt (fun (a,b,i,_) _=>(xaQ a b,(i),fun p=>(.node p.1 (.leaf .ret [AV.list 3 a,AV.list 3 b,AV.int .i64 p.2.1] []) (.leaf (.exit 0) [AV.list 3 a,AV.list 3 b,.top] [])))) (false,0,()) fun (a,b,_,_) _ (i)=>(((a,b,i,()),()),xdS a b i none)
def xn4 {T:Type} (a b:LA) (δ:T) (κ:Int->T):T:=br ((Iter (xaQ a b) 0).isSome) (br (((Iter (xaQ a b) 0).getD (false,0,())).fst) (κ (((Iter (xaQ a b) 0).getD (false,0,())).snd.fst)) (br (decide ((↑a.length:Int)<(↑b.length:Int))) (κ ((-1))) (br (decide ((↑a.length:Int)>(↑b.length:Int))) (κ (1)) (κ (0))))) δ
def xat (a b:LA):=xn4 a b none some
def xLq:EO:=xGN.f Tryz.func17 41 0 [] [(2,xoV.lp)] (lk1 xoV.ok) (u2 (uL 3) (uL 3)) (fun (a,b,_) _=>xn4 a b) (fun _ p=>AV.int .i64 p) 0
def xq0 {T:Type} (a b:LA) (δ:T) (κ:Bool->T):T:=br ((xat a b).isSome) (κ ((xat a b).getD 0==0)) δ
def xtO (a b:LA):=xq0 a b none some
def xGO:EO:=xLq.f Tryz.func94 9 0 [] [] lk0 (u2 (uL 3) (uL 3)) (fun (a,b,_) _=>xq0 a b) (fun _ p=>AV.bool p) false
def xdx (a b:LA) (i k:Int):=decide ((xat (gC b k 0).toList (gC a i 0).toList).getD 0<0)
def xd0 (b:LA) (k:Int):=decide (k.toNat<b.length)&&((b.getD k.toNat .top).cells.length==3&&xOP [Sh.list 3,Sh.int .i64,Sh.int .i64] (b.getD k.toNat .top).cells 0)
def xd1 (a:LA) (i:Int):=decide (i.toNat<a.length)&&((a.getD i.toNat .top).cells.length==3&&xOP [Sh.list 3,Sh.int .i64,Sh.int .i64] (a.getD i.toNat .top).cells 0)
def xcE (a:LA) (i:Int):=ixI a i
def xcF (b:LA) (k:Int):=ixI b k
def xcg {T:Type} (b:LA) (c:Nat) (i k:Int) (a:LA) (δ:T) (κl:(Nat×Int×Int×LA)->T):T:=br (xcF b k) (br (xd0 b k) (br (rmB c a 1 40) (κl (c+1,i,i64.wrap (k+1),a++[AV.agg [AV.list 3 (gC b k 0).toList,AV.int .i64 (gC b k 1).toInt,AV.int .i64 (gC b k 2).toInt]])) δ) δ) δ
def xch {T:Type} (a:LA) (c:Nat) (i k:Int) (b:LA) (δ:T) (κl:(Nat×Int×Int×LA)->T):T:=br (xcE a i) (br (xd1 a i) (br (rmB c b 1 40) (κl (c+1,i64.wrap (i+1),k,b++[AV.agg [AV.list 3 (gC a i 0).toList,AV.int .i64 (gC a i 1).toInt,AV.int .i64 (gC a i 2).toInt]])) δ) δ) δ
def xcf {T:Type} (a b:LA) (d:Nat) (i k:Int) (c:LA) (δ:T) (κl:(Nat×Int×Int×LA)->T):T:=br (i==(↑a.length:Int)) (xcg b d i k c δ κl) (br (decide (k<b.length)) (br (xcF b k) (br (ixS b k (Sh.list 3) 0) (br (xcE a i) (br (ixS a i (Sh.list 3) 0) (br ((xat (gC b k 0).toList (gC a i 0).toList).isSome) (br (xdx a b i k) (xcg b d i k c δ κl) (xch a d i k c δ κl)) δ) δ) δ) δ) δ) (xch a d i k c δ κl))
def xdd {T:Type} (a b:LA) (d:Nat) (i k:Int) (c:LA) (δ:T) (κl:(Nat×Int×Int×LA)->T) (κr:(Nat×LA)->T):T:=br (decide (i<a.length)) (xcf a b d i k c δ κl) (br (decide (k<b.length)) (xcf a b d i k c δ κl) (κr (d,c)))
def xaZ (a b:LA):StT (Nat×Int×Int×LA) (Nat×LA):=fun (d,i,k,c)=>xdd a b d i k c none inL inR
def xqE:=xGO.l 61 0 [] [] Tryz.f120 0 lk0 [0,1,5,6,7] [5] [(5,3,58)] (q5 (qL 3) (qL 3) (xPE 0 0 0) qI qI) (q1 (qB 0 3 58 xPv)) (fun (a,b,d,i,k,_) (c,_)=>(xaZ a b,(d,i,k,c),fun p=>(.leaf (.exit 0) [AV.osl 0 0 0 p.1] [bF 0 3 58 p.2]))) (0,[]) fun (a,b,_,_,_,_) _ (d,i,k,c)=>(((a,b,d,i,k,()),(c,())),xdd a b d i k c none)
def xoE (a b:LA):=Iter (xaZ a b) (0,0,0,[])
def xoD (a b:LA):=(xoE a b).getD (0,[])
def xoB (a b:LA):=(xoD a b).fst
def xoC (a b:LA):=(xoD a b).snd
def xpS {T:Type} (a b:LA) (δ:T) (κ:LA->T):T:=br ((xoE a b).isSome) (br (decide (0+xoB a b<=(xoC a b).length)&&true) (κ (List.take (xoB a b) (List.drop 0 (xoC a b)))) δ) δ
def xsI (a b:LA):=xpS a b none some
def xyQ:EO:=xGO.f Tryz.func120 61 0 [] [(3,xqE.lp)] (lk1 xqE.ok) (u2 (uL 3) (uL 3)) (fun (a,b,_) _=>xpS a b) (fun _ p=>AV.list 3 p) []
def xkZ (R:LA->Option (LA)):LA->Option (Bool×AV):=ocOf (xPs (xPI 3 xPv) xPu) fun (l,_)=>((R l).isSome,AV.list 3 ((R l).getD []))
def xgx (R:LA->Option (LA)):Prop:=OcOk P0 xPq 91 (xkZ R)
def xeZ (R:LA->Option (LA)):Env:=(xyQ.E.with 91 (xkZ R)).fn 20 0 (lsOf []) (xO5 [])
theorem xvy (R:LA->Option (LA)) (a:xgx R):xOK P0 (xPq.at 0) (xeZ R):=(xyQ.ok.with a).fn
theorem xum (R:LA->Option (LA)) (a:xgx R):LoOk P0 (xPq.at (xeZ R).pin) (xeZ R) (Tryz.f91.body.getD .skip):=xfx (by kernel_rfl)
def xmZ (l:LA):=decide (0<=i64.wrap ((↑l.length:Int).tdiv 2))&&decide (i64.wrap ((↑l.length:Int).tdiv 2)<=(↑l.length:Int))
def xmx (R:LA->Option (LA)) (l:LA):Option (LA):=R (List.take (l.length - (i64.wrap ((↑l.length:Int).tdiv 2)).toNat) (List.drop (i64.wrap ((↑l.length:Int).tdiv 2)).toNat l))
def xmY (R:LA->Option (LA)) (l:LA):Option (LA):=xsI ((R (List.take ((i64.wrap ((↑l.length:Int).tdiv 2)).toNat - 0) (List.drop 0 l))).getD []) ((xmx R l).getD [])
def xfI {T:Type} (R:LA->Option (LA)) (l:LA) (δ:T) (κ:LA->T):T:=br (decide ((↑l.length:Int)<2)) (κ (l)) (br (xmZ l&&true) (br ((R (List.take ((i64.wrap ((↑l.length:Int).tdiv 2)).toNat - 0) (List.drop 0 l))).isSome) (br (xmZ l) (br ((xmx R l).isSome) (br ((xmY R l).isSome) (κ ((xmY R l).getD [])) δ) δ) δ) δ) δ)
def xb4 (R:LA->Option (LA)) (l:LA):=xfI R l none some
theorem xzC (R:LA->Option (LA)) (l:LA):Enc (fun (p:LA)=>((AV.list 3 p):AV)) (xb4 R l) (XF P0 (xeZ R) Tryz.f91 (Tryz.f91.body.getD .skip) [AV.list 3 l]):=by
 have h:XF P0 (xeZ R) Tryz.f91 (Tryz.f91.body.getD .skip) [AV.list 3 l]=xfI R l none (fun (p:LA)=>some ((AV.list 3 p):AV)):=by kernel_rfl
 rw [h];unfold xb4 xfI;repeat' (first|refine Enc.br ?_ ?_|exact Enc.none|exact Enc.some rfl)
def xzB (R:LA->Option (LA)):LA->Option (Bool×AV):=ocOf (xPs (xPI 3 xPv) xPu) fun (l,_)=>((xb4 R l).isSome,(AV.list 3 ((xb4 R l).getD [])))
theorem xzA (R:LA->Option (LA)) (a:xgx R):OcOk P0 xPq 91 (xzB R):=xgE fun e g f=>by
 obtain ⟨l,_⟩:=e;obtain ⟨b,c⟩:=Prod.mk.inj f;refine xi3 (p:=(xeZ R).pin) (xlf xOT (xOU P0 _) rfl (xvy R a) Tryz.func91 rfl (by kernel_rfl) (xum R a) ((xzC R _ _ (xaJ (d:=[]) b)).trans ?_))
 exact congrArg some c
def xbl:Nat->LA->Option (LA)
 | 0=>fun _=>none
 | fu_+1=>fun l=>xb4 (xbl fu_) l
theorem xqF:∀ n,xgx (xbl n)
 | 0=>xgE fun _ _ h=>absurd (Prod.mk.inj h).1 Bool.false_ne_true
 | fu_+1=>fun a r h=>xzA (xbl fu_) (xqF fu_) a r h
def xGP:Env:=xyQ.E.with 91 (xkZ (xbl 100))
theorem xGR:xOK P0 xPq xGP:=xyQ.ok.with (xqF _)
def xGQ:EO:=EO.mk xGP xGR
def xe6 (a b:Int):Bool:=(br (decide (a>=0)) (br (decide (a<b)) ((decide (b<=1099511627776))) ((false))) ((false)))
def xBT {T:Type} (a b:Int) (δ:T) (κ:Bool->T):T:=br (decide (a>=0)) (br (decide (a<b)) (κ (decide (b<=1099511627776))) (κ (false))) (κ (false))
def xLr:EO:=xGQ.fT Tryz.func46 18 0 [] [] lk0 (fun ((a,b,_),_)=>xBT a b none) (u1 (xPJ (u2 uI uI))) (fun ((a,b,_),_)=>xe6 a b) (fun _ p=>(AV.bool p))
def xif (a b t:Int):Bool:=(br (xe6 a b) (br (decide (a<=t)) ((decide (t<b))) ((false))) ((false)))
def xyD {T:Type} (a b t:Int) (δ:T) (κ:Bool->T):T:=br (xe6 a b) (br (decide (a<=t)) (κ (decide (t<b))) (κ (false))) (κ (false))
def xGS:EO:=xLr.fT Tryz.func24 19 0 [] [] lk0 (fun ((a,b,_),t,_)=>xyD a b t none) (u2 (xPJ (u2 uI uI)) uI) (fun ((a,b,_),t,_)=>xif a b t) (fun _ p=>(AV.bool p))
def xkf {T:Type} (a b:LA) (i:Int) (δ:T) (κl:(Int)->T) (κr:(Bool×(Bool)×(Unit))->T):T:=br (decide (i<a.length)) (br (ixI a i) (br (ixT a i 2 [Sh.int .i64,Sh.int .i64] 0) (br (ixI b i) (br (ixT b i 2 [Sh.int .i64,Sh.int .i64] 0) (br (!((gC a i 0).toInt==(gC b i 0).toInt&&((gC a i 1).toInt==(gC b i 1).toInt&&true))) (κr (true,(false),())) (κl (i64.wrap (i+1)))) δ) δ) δ) δ) (κr (false,false,()))
def xbS (a b:LA):StT (Int) (Bool×(Bool)×(Unit)):=fun (i)=>xkf a b i none inL inR
def xsf:=xGS.l 26 0 [] [] Tryz.f18 0 lk0 [0,1,5] [4] [] (q3 (qL 2) (qL 2) qI) xPt (fun (a,b,i,_) _=>(xbS a b,(i),fun p=>(.node p.1 (.leaf .ret [AV.bool p.2.1] []) (.leaf (.exit 0) [.top] [])))) (false,false,()) fun (a,b,_,_) _ (i)=>(((a,b,i,()),()),xkf a b i none)
def xsg {T:Type} (a b:LA) (δ:T) (κ:Bool->T):T:=br ((↑a.length:Int) != (↑b.length:Int)) (κ (false)) (br ((Iter (xbS a b) 0).isSome) (br (((Iter (xbS a b) 0).getD (false,false,())).fst) (κ (((Iter (xbS a b) 0).getD (false,false,())).snd.fst)) (κ (true))) δ)
def xuS (a b:LA):=xsg a b none some
def xLs:EO:=xGS.f Tryz.func18 26 0 [] [(4,xsf.lp)] (lk1 xsf.ok) (u2 (uL 2) (uL 2)) (fun (a,b,_) _=>xsg a b) (fun _ p=>AV.bool p) false
def xGl:Int×Int×List UInt8:=((0,0,[]))
def xDt {T:Type} (δ:T) (κ:Int×Int×List UInt8->T):T:=κ (0,0,[])
def xKf:EO:=xLs.fT Tryz.func101 2 0 [] [] lk0 (fun _=>xDt none) xPu (fun _=>xGl) (fun _ p=>(AV.agg [AV.int .i64 p.1,AV.int .i64 p.2.1,AV.str p.2.2]))
def xzy {T:Type} (a:LA) (i:Int) (δ:T) (κ:Int×Int×List UInt8->T):T:=br (decide (i<0)) (κ (0,0,[])) (br (decide (i>=a.length)) (κ (0,0,[])) (br (ixI a i) (br (ixT a i 3 [Sh.int .i64,Sh.int .i64,Sh.str] 0) (κ ((gC a i 0).toInt,(gC a i 1).toInt,(gC a i 2).toStr)) δ) δ))
def xmQ (a:LA) (i:Int):=xzy a i none some
def xEP:EO:=xKf.f Tryz.func75 18 0 [] [] lk0 (u2 (uL 3) uI) (fun (a,i,_) _=>xzy a i) (fun _ p=>AV.agg [AV.int .i64 p.1,AV.int .i64 p.2.1,AV.str p.2.2]) (0,0,[])
def xkU (o:LA) (i:Int):=ixI o i
def xqw (a o:LA) (i:Int):=(xmQ a (gC o i 0).toInt).getD (0,0,[])
def xqy (b o:LA) (i:Int):=(xmQ b (gC o i 0).toInt).getD (0,0,[])
def xqu (b o:LA) (i:Int):=(xqy b o i).snd
def xqv (a o:LA) (i:Int):=(xqw a o i).snd
def xqt (a b o:LA) (i:Int):=xhd (xqw a o i).fst (xqv a o i).fst (xqv a o i).snd (xqy b o i).fst (xqu b o i).fst (xqu b o i).snd
def xlT {T:Type} (a b o:LA) (i:Int) (δ:T) (κl:(Int)->T) (κr:(Bool×(Bool)×(Unit))->T):T:=br (decide (i<o.length)) (br (xkU o i) (br (ixS o i (Sh.int .i64) 0) (br ((xmQ a (gC o i 0).toInt).isSome) (br (xkU o i) (br (ixS o i (Sh.int .i64) 0) (br ((xmQ b (gC o i 0).toInt).isSome) (br (xqt a b o i != 0) (br (xkU o i) (br (decide (i.toNat<o.length)&&xOI Sh.bool (gC o i 1)) (κr (true,(!decide (xqt a b o i<0)==(gC o i 1).toBool),())) δ) δ) (κl (i64.wrap (i+1)))) δ) δ) δ) δ) δ) δ) (κr (false,false,()))
def xcR (a b o:LA):StT (Int) (Bool×(Bool)×(Unit)):=fun (i)=>xlT a b o i none inL inR
def xqs:=xEP.l 44 0 [] [] Tryz.f125 0 lk0 [0,1,2,7] [0,1,6] [] (q4 (qL 3) (qL 3) (qL 2) qI) xPt (fun (a,b,o,i,_) _=>(xcR a b o,(i),fun p=>(.node p.1 (.leaf .ret [AV.list 3 a,AV.list 3 b,AV.bool p.2.1] []) (.leaf (.exit 0) [AV.list 3 a,AV.list 3 b,.top] [])))) (false,false,()) fun (a,b,o,_,_) _ (i)=>(((a,b,o,i,()),()),xlT a b o i none)
def xpp {T:Type} (a b o:LA) (δ:T) (κ:Bool->T):T:=br ((Iter (xcR a b o) 0).isSome) (br (((Iter (xcR a b o) 0).getD (false,false,())).fst) (κ (((Iter (xcR a b o) 0).getD (false,false,())).snd.fst)) (br ((xat a b).isSome) (κ (decide ((xat a b).getD 0<0))) δ)) δ
def xn7 (a b o:LA):=xpp a b o none some
def xEQ:EO:=xEP.f Tryz.func125 44 0 [] [(2,xqs.lp)] (lk1 xqs.ok) (u3 (uL 3) (uL 3) (uL 2)) (fun (a,b,o,_) _=>xpp a b o) (fun _ p=>AV.bool p) false
def xcw (a:LA) (i:Int):=decide (i.toNat<a.length)&&xOI (Sh.list 3) (gC a i 0)
def xcy (b:LA) (k:Int):=decide (k.toNat<b.length)&&xOI (Sh.list 3) (gC b k 0)
def xcz (a:LA) (i:Int):=ixI a i
def xcA (b:LA) (k:Int):=ixI b k
def xcb {T:Type} (b:LA) (c:Nat) (i k:Int) (a:LA) (δ:T) (κl:(Nat×Int×Int×LA)->T):T:=br (xcA b k) (br (xcy b k) (br (rmB c a 1 24) (κl (c+1,i,i64.wrap (k+1),a++[AV.list 3 (gC b k 0).toList])) δ) δ) δ
def xcc {T:Type} (a:LA) (c:Nat) (i k:Int) (b:LA) (δ:T) (κl:(Nat×Int×Int×LA)->T):T:=br (xcz a i) (br (xcw a i) (br (rmB c b 1 24) (κl (c+1,i64.wrap (i+1),k,b++[AV.list 3 (gC a i 0).toList])) δ) δ) δ
def xca {T:Type} (a b o:LA) (d:Nat) (i k:Int) (c:LA) (δ:T) (κl:(Nat×Int×Int×LA)->T):T:=br (i==(↑a.length:Int)) (xcb b d i k c δ κl) (br (decide (k<b.length)) (br (xcA b k) (br (xcy b k) (br (xcz a i) (br (xcw a i) (br ((xn7 (gC b k 0).toList (gC a i 0).toList o).isSome) (br ((xn7 (gC b k 0).toList (gC a i 0).toList o).getD false) (xcb b d i k c δ κl) (xcc a d i k c δ κl)) δ) δ) δ) δ) δ) (xcc a d i k c δ κl))
def xda {T:Type} (a b o:LA) (d:Nat) (i k:Int) (c:LA) (δ:T) (κl:(Nat×Int×Int×LA)->T) (κr:(Nat×LA)->T):T:=br (decide (i<a.length)) (xca a b o d i k c δ κl) (br (decide (k<b.length)) (xca a b o d i k c δ κl) (κr (d,c)))
def xaY (a b o:LA):StT (Nat×Int×Int×LA) (Nat×LA):=fun (d,i,k,c)=>xda a b o d i k c none inL inR
def xqz:=xEQ.l 62 0 [] [] Tryz.f100 0 lk0 [0,1,2,7,8,9] [7] [(7,1,34)] (q6 (qL 1) (qL 1) (qL 2) (xPE 0 0 0) qI qI) (q1 (qB 0 1 34 xPv)) (fun (a,b,o,d,i,k,_) (c,_)=>(xaY a b o,(d,i,k,c),fun p=>(.leaf (.exit 0) [AV.osl 0 0 0 p.1] [bF 0 1 34 p.2]))) (0,[]) fun (a,b,o,_,_,_,_) _ (d,i,k,c)=>(((a,b,o,d,i,k,()),(c,())),xda a b o d i k c none)
def xob (a b o:LA):=Iter (xaY a b o) (0,0,0,[])
def xoa (a b o:LA):=(xob a b o).getD (0,[])
def xn8 (a b o:LA):=(xoa a b o).fst
def xn9 (a b o:LA):=(xoa a b o).snd
def xpq {T:Type} (a b o:LA) (δ:T) (κ:LA->T):T:=br ((xob a b o).isSome) (br (decide (0+xn8 a b o<=(xn9 a b o).length)&&true) (κ (List.take (xn8 a b o) (List.drop 0 (xn9 a b o)))) δ) δ
def xsp (a b o:LA):=xpq a b o none some
def xwl:EO:=xEQ.f Tryz.func100 62 0 [] [(3,xqz.lp)] (lk1 xqz.ok) (u3 (uL 1) (uL 1) (uL 2)) (fun (a,b,o,_) _=>xpq a b o) (fun _ p=>AV.list 1 p) []
def xmT (R:LA->LA->Option (LA)):LA->Option (Bool×AV):=ocOf (xPs (xPI 1 xPv) (xPs (xPI 2 xPv) xPu)) fun (l,(o,_))=>((R l o).isSome,AV.list 1 ((R l o).getD []))
def xh4 (R:LA->LA->Option (LA)):Prop:=OcOk P0 xPq 72 (xmT R)
def xgG (R:LA->LA->Option (LA)):Env:=(xwl.E.with 72 (xmT R)).fn 34 0 (lsOf []) (xO5 [])
theorem xwz (R:LA->LA->Option (LA)) (a:xh4 R):xOK P0 (xPq.at 0) (xgG R):=(xwl.ok.with a).fn
theorem xvu (R:LA->LA->Option (LA)) (a:xh4 R):LoOk P0 (xPq.at (xgG R).pin) (xgG R) (Tryz.f72.body.getD .skip):=xfx (by kernel_rfl)
def xir (l:LA):=decide (0<=i64.wrap ((↑l.length:Int).tdiv 2))&&decide (i64.wrap ((↑l.length:Int).tdiv 2)<=(↑l.length:Int))
def xeT (l:LA):Nat:=0+((l.getD 0 .top).cells.getD 0 .top).toList.length
def xis (R:LA->LA->Option (LA)) (l o:LA):Option (LA):=R (List.take (l.length - (i64.wrap ((↑l.length:Int).tdiv 2)).toNat) (List.drop (i64.wrap ((↑l.length:Int).tdiv 2)).toNat l)) o
def xiq (R:LA->LA->Option (LA)) (l o:LA):Option (LA):=xsp ((R (List.take ((i64.wrap ((↑l.length:Int).tdiv 2)).toNat - 0) (List.drop 0 l)) o).getD []) ((xis R l o).getD []) o
def xeo {T:Type} (R:LA->LA->Option (LA)) (l o:LA) (δ:T) (κ:LA->T):T:=br ((↑l.length:Int)==0) (κ ([])) (br ((↑l.length:Int)==1) (br (decide (0<(↑l.length:Int))) (br (decide (0<l.length)&&xOI (Sh.list 3) ((l.getD 0 .top).cells.getD 0 .top)) (br (decide (xeT l*32<=140737488355328)&&decide (xeT l<=4611686018427387904)) (br (decide (0+xeT l<=([]++((l.getD 0 .top).cells.getD 0 .top).toList).length)&&true&&true&&true) (κ ([AV.list 3 (List.take (xeT l) (List.drop 0 ([]++((l.getD 0 .top).cells.getD 0 .top).toList)))])) δ) δ) δ) δ) (br (xir l&&true) (br ((R (List.take ((i64.wrap ((↑l.length:Int).tdiv 2)).toNat - 0) (List.drop 0 l)) o).isSome) (br (xir l) (br ((xis R l o).isSome) (br ((xiq R l o).isSome) (κ ((xiq R l o).getD [])) δ) δ) δ) δ) δ))
def xbO (R:LA->LA->Option (LA)) (l o:LA):=xeo R l o none some
theorem xBX (R:LA->LA->Option (LA)) (l o:LA):Enc (fun (p:LA)=>((AV.list 1 p):AV)) (xbO R l o) (XF P0 (xgG R) Tryz.f72 (Tryz.f72.body.getD .skip) [AV.list 1 l,AV.list 2 o]):=by
 have h:XF P0 (xgG R) Tryz.f72 (Tryz.f72.body.getD .skip) [AV.list 1 l,AV.list 2 o]=xeo R l o none (fun (p:LA)=>some ((AV.list 1 p):AV)):=by kernel_rfl
 rw [h];unfold xbO xeo;repeat' (first|refine Enc.br ?_ ?_|exact Enc.none|exact Enc.some rfl)
def xBW (R:LA->LA->Option (LA)):LA->Option (Bool×AV):=ocOf (xPs (xPI 1 xPv) (xPs (xPI 2 xPv) xPu)) fun (l,(o,_))=>((xbO R l o).isSome,(AV.list 1 ((xbO R l o).getD [])))
theorem xBV (R:LA->LA->Option (LA)) (a:xh4 R):OcOk P0 xPq 72 (xBW R):=xgE fun e g f=>by
 obtain ⟨l,⟨o,_⟩⟩:=e;obtain ⟨b,c⟩:=Prod.mk.inj f;refine xi3 (p:=(xgG R).pin) (xlf xOT (xOU P0 _) rfl (xwz R a) Tryz.func72 rfl (by kernel_rfl) (xvu R a) ((xBX R _ _ _ (xaJ (d:=[]) b)).trans ?_))
 exact congrArg some c
def xbH:Nat->LA->LA->Option (LA)
 | 0=>fun _ _=>none
 | fu_+1=>fun l o=>xbO (xbH fu_) l o
theorem xsl:∀ n,xh4 (xbH n)
 | 0=>xgE fun _ _ h=>absurd (Prod.mk.inj h).1 Bool.false_ne_true
 | fu_+1=>fun a r h=>xBV (xbH fu_) (xsl fu_) a r h
def xER:Env:=xwl.E.with 72 (xmT (xbH 1000))
theorem xFw:xOK P0 xPq xER:=xwl.ok.with (xsl _)
def xFv:EO:=EO.mk xER xFw
def xso {T:Type} (l:LA) (δ:T) (κ:LA->T):T:=br ((xbH 1000 l []).isSome) (κ ((xbH 1000 l []).getD [])) δ
def xn6 (l:LA):=xso l none some
def xES:EO:=xFv.f Tryz.func41 5 0 [] [] lk0 (u1 (uL 1)) (fun (l,_) _=>xso l) (fun _ p=>AV.list 1 p) []
def xgk (a:LA) (i:Int):=decide (i.toNat<a.length)&&xOI (Sh.list 3) (gC a i 0)
def xgl (a:LA) (i:Int):=ixI a i
def xgm (a:LA) (i:Int):=xtO ((a.getD (i64.wrap (i - 1)).toNat .top).cells.getD 0 .top).toList (gC a i 0).toList
def xdT {T:Type} (c:LA) (b:Nat) (i:Int) (a:LA) (δ:T) (κl:(Nat×Int×LA)->T):T:=br (xgl c i) (br (xgk c i) (br (rmB b a 1 24) (κl (b+1,i64.wrap (i+1),a++[AV.list 3 (gC c i 0).toList])) δ) δ) δ
def xeK {T:Type} (a:LA) (c:Nat) (i:Int) (b:LA) (δ:T) (κl:(Nat×Int×LA)->T) (κr:(Nat×LA)->T):T:=br (decide (i<a.length)) (br (i==0) (xdT a c i b δ κl) (br (decide (0<=i64.wrap (i - 1))&&decide (i64.wrap (i - 1)<(↑a.length:Int))) (br (decide ((i64.wrap (i - 1)).toNat<a.length)&&xOI (Sh.list 3) ((a.getD (i64.wrap (i - 1)).toNat .top).cells.getD 0 .top)) (br (xgl a i) (br (xgk a i) (br ((xgm a i).isSome) (br (!(xgm a i).getD false) (xdT a c i b δ κl) (κl (c,i64.wrap (i+1),b))) δ) δ) δ) δ) δ)) (κr (c,b))
def xbu (c:LA):StT (Nat×Int×LA) (Nat×LA):=fun (b,i,a)=>xeK c b i a none inL inR
def xn5:=xES.l 38 0 [] [] Tryz.f66 0 lk0 [3,4,5] [4] [(4,1,34)] (q3 (qL 1) (xPE 0 0 0) qI) (q1 (qB 0 1 34 xPv)) (fun (c,b,i,_) (a,_)=>(xbu c,(b,i,a),fun p=>(.leaf (.exit 0) [AV.osl 0 0 0 p.1] [bF 0 1 34 p.2]))) (0,[]) fun (c,_,_,_) _ (b,i,a)=>(((c,b,i,()),(a,())),xeK c b i a none)
def xlS (l:LA):=(Iter (xbu ((xn6 l).getD [])) (0,0,[])).getD (0,[])
def xlQ (l:LA):=(xlS l).fst
def xlR (l:LA):=(xlS l).snd
def xmR {T:Type} (l:LA) (δ:T) (κ:LA->T):T:=br ((xn6 l).isSome) (br ((Iter (xbu ((xn6 l).getD [])) (0,0,[])).isSome) (br (decide (0+xlQ l<=(xlR l).length)&&true) (κ (List.take (xlQ l) (List.drop 0 (xlR l)))) δ) δ) δ
def xpo (l:LA):=xmR l none some
def xET:EO:=xES.f Tryz.func66 38 0 [] [(4,xn5.lp)] (lk1 xn5.ok) (u1 (uL 1)) (fun (l,_) _=>xmR l) (fun _ p=>AV.list 1 p) []
def xkp {T:Type} (l:LA) (b:Nat) (i:Int) (a:LA) (δ:T) (κl:(Nat×Int×LA)->T) (κr:(Nat×LA)->T):T:=br (decide (i<l.length)) (br (ixI l i) (br (ixT l i 3 [Sh.int .i64,Sh.int .i64] 1) (br (xe6 (gC l i 1).toInt (gC l i 2).toInt) (br (ixI l i) (br (ixS l i (Sh.list 3) 0) (br (rmB b a 1 24) (κl (b+1,i64.wrap (i+1),a++[AV.list 3 (gC l i 0).toList])) δ) δ) δ) (κl (b,i64.wrap (i+1),a))) δ) δ) (κr (b,a))
def xdZ (l:LA):StT (Nat×Int×LA) (Nat×LA):=fun (b,i,a)=>xkp l b i a none inL inR
def xsD:=xET.l 27 0 [] [] Tryz.f36 0 lk0 [0,3,4] [3] [(3,1,34)] (q3 (qL 3) (xPE 0 0 0) qI) (q1 (qB 0 1 34 xPv)) (fun (l,b,i,_) (a,_)=>(xdZ l,(b,i,a),fun p=>(.leaf (.exit 0) [AV.osl 0 0 0 p.1] [bF 0 1 34 p.2]))) (0,[]) fun (l,_,_,_) _ (b,i,a)=>(((l,b,i,()),(a,())),xkp l b i a none)
def xrh (l:LA):=(Iter (xdZ l) (0,0,[])).getD (0,[])
def xrf (l:LA):=(xrh l).fst
def xrg (l:LA):=(xrh l).snd
def xre (l:LA):=xpo (List.take (xrf l) (List.drop 0 (xrg l)))
def xsE {T:Type} (l:LA) (δ:T) (κ:LA->T):T:=br ((Iter (xdZ l) (0,0,[])).isSome) (br (decide (0+xrf l<=(xrg l).length)&&true) (br ((xre l).isSome) (κ ((xre l).getD [])) δ) δ) δ
def xlv (l:LA):=xsE l none some
def xuc:EO:=xET.f Tryz.func36 27 0 [] [(3,xsD.lp)] (lk1 xsD.ok) (u1 (uL 3)) (fun (l,_) _=>xsE l) (fun _ p=>AV.list 1 p) []
def xhb:Env:=xuc.E.fn 51 1 (lsOf []) (xO5 [])
theorem xyE:xOK P0 (xPq.at 1) xhb:=xuc.ok.fn
theorem xv2:LoOk P0 (xPq.at xhb.pin) xhb (Tryz.f93.body.getD .skip):=xfx (by kernel_rfl)
def xdF (k:Nat) (a:LA):=(List.take ((i64.wrap ((↑k:Int) - 1)).toNat - 0) (List.drop 0 a)).length
def xmk (k:Nat) (a:LA):=decide (0+(i64.wrap ((↑k:Int) - 1)).toNat<a.length)
def xjK (k:Nat) (a:LA):=((a.getD (0+(i64.wrap ((↑k:Int) - 1)).toNat) .top).cells.getD 1 .top).toInt
def xml (k:Nat):=decide (0<=i64.wrap ((↑k:Int) - 1))
def xjJ (k:Nat):=xml k&&decide (i64.wrap ((↑k:Int) - 1)<(↑k:Int))
def xmj (k:Nat) (a:LA):=xmk k a&&xOI (Sh.int .i64) ((a.getD (0+(i64.wrap ((↑k:Int) - 1)).toNat) .top).cells.getD 1 .top)
def xig {T:Type} (k:Nat) (a b:Int) (c:LA) (δ:T) (κ:Bool×(Nat×LA×LA)×(Nat×LA)->T):T:=br (rmB k c 1 16) (κ (false,(0,[],[]),(k+1,c++[AV.agg [AV.int .i64 a,AV.int .i64 b]]))) δ
def xkT {T:Type} (k:Nat) (b c:Int) (a:LA) (δ:T) (κ:Bool×(Nat×LA×LA)×(Nat×LA)->T):T:=br (decide ((↑k:Int)>0)) (br (xjJ k) (br (xmj k a) (br (decide (xjK k a>=b)) (br (xml k&&decide (i64.wrap ((↑k:Int) - 1)<=(↑k:Int))&&true) (br (decide (0+((i64.wrap ((↑k:Int) - 1)).toNat - 0)<=a.length)&&(decide (xdF k a*16<=140737488355328)&&decide (xdF k a<=4611686018427387904))) (br (xjJ k) (br (xmk k a&&xOI (Sh.int .i64) ((a.getD (0+(i64.wrap ((↑k:Int) - 1)).toNat) .top).cells.getD 0 .top)) (br (xjJ k) (br (xmj k a) (br (xdF k a==xdF k a&&(decide ((xdF k a+1)*16<=140737488355328)&&decide (xdF k a+1<=4611686018427387904))) (κ (true,(xdF k a+1,a,List.take ((i64.wrap ((↑k:Int) - 1)).toNat - 0) (List.drop 0 a)++[AV.agg [AV.int .i64 ((a.getD (0+(i64.wrap ((↑k:Int) - 1)).toNat) .top).cells.getD 0 .top).toInt,AV.int .i64 (if c>xjK k a then c else xjK k a)]]),(0,[]))) δ) δ) δ) δ) δ) δ) δ) (xig k b c a δ κ)) δ) δ) (xig k b c a δ κ)
def xa4 (k:Nat) (a b:Int) (c:LA):=xkT k a b c none some
theorem xDs (k:Nat) (a b:Int) (xs:LA):Enc (fun (p:Bool×(Nat×LA×LA)×(Nat×LA))=>((br p.1 ((AV.osl 1 0 0 p.2.1.1,([⟨0,2,50,p.2.1.2.1,false,true⟩,⟨0,2,50,p.2.1.2.2,false,true⟩]:List Box))) ((AV.osl 0 1 0 p.2.2.1,([⟨1,2,50,p.2.2.2,false,true⟩]:List Box)))):(AV×List Box))) (xa4 k a b xs) (XFM P0 xhb Tryz.f93 (Tryz.f93.body.getD .skip) [AV.osl (0:Id) 0 0 k,AV.agg [AV.int .i64 a,AV.int .i64 b]] [{ ver:=0,sz:=2,ty:=(50:TypeId),xs:=xs,frz:=false,pm:=true }]):=by
 have h:XFM P0 xhb Tryz.f93 (Tryz.f93.body.getD .skip) [AV.osl (0:Id) 0 0 k,AV.agg [AV.int .i64 a,AV.int .i64 b]] [{ ver:=0,sz:=2,ty:=(50:TypeId),xs:=xs,frz:=false,pm:=true }]=xkT k a b xs none (fun (p:Bool×(Nat×LA×LA)×(Nat×LA))=>some ((br p.1 ((AV.osl 1 0 0 p.2.1.1,([⟨0,2,50,p.2.1.2.1,false,true⟩,⟨0,2,50,p.2.1.2.2,false,true⟩]:List Box))) ((AV.osl 0 1 0 p.2.2.1,([⟨1,2,50,p.2.2.2,false,true⟩]:List Box)))):(AV×List Box))):=by kernel_rfl
 rw [h];unfold xa4 xkT xig;repeat' (first|refine Enc.br ?_ ?_|exact Enc.none|exact Enc.some rfl)
def xDr:LA->List Box->Option (Bool×AV×List Box):=omOf (xPs (sEq (xPE 0 0 0)) (xPs (xPJ (xPs (sEq (pInt .i64)) (xPs (sEq (pInt .i64)) xPu))) xPu)) (xPr (xPH 0 2 (50:TypeId) false true xPv) xPt) fun (k,((a,(b,_)),_)) (c,_)=>((xa4 k a b c).isSome,(AV.osl 1 0 0 (br ((xa4 k a b c).getD (false,(0,[],[]),(0,[]))).1 ((xa4 k a b c).getD (false,(0,[],[]),(0,[]))).2.1.1 ((xa4 k a b c).getD (false,(0,[],[]),(0,[]))).2.2.1),
 ([⟨2,2,50,[],false,true⟩,⟨0,2,50,br ((xa4 k a b c).getD (false,(0,[],[]),(0,[]))).1 ((xa4 k a b c).getD (false,(0,[],[]),(0,[]))).2.1.2.2 ((xa4 k a b c).getD (false,(0,[],[]),(0,[]))).2.2.2,false,true⟩]:List Box)))
theorem xDq:OmOk P0 xPq 93 (xDr):=xrW fun e f j h g=>by
 obtain ⟨k,⟨⟨c,⟨i,_⟩⟩,_⟩⟩:=e;obtain ⟨l,_⟩:=f;obtain ⟨b,a⟩:=Prod.mk.inj g;have hx:=xDs _ _ _ _ _ (xaJ (d:=(false,(0,[],[]),(0,[]))) b);revert hx a;generalize ((xa4 _ _ _ _).getD (false,(0,[],[]),(0,[])))=p;intro a hx;obtain ⟨rfl,rfl⟩:=Prod.mk.inj a;obtain ⟨t,⟨m,n,o⟩,q,r⟩:=p;have hg:GoodM P0 xPq 93 _ _ _ _:=xne (p:=xhb.pin) (xnd xOT (xOU P0 _) rfl xyE rfl Tryz.func93 rfl (by kernel_rfl) xv2 hx)
 cases t
 . exact GoodM.move0 rfl (by decide) hg
 . exact GoodM.drop0 rfl (by decide) hg
def xFu:EO:=xuc.wM xDq
def xf1 {T:Type} (l:LA) (n:Int) (b:Nat) (i:Int) (a:LA) (δ:T) (κl:(Nat×Int×LA)->T) (κr:(Nat×Int×LA)->T):T:=br (decide (i<l.length)) (br (ixI l i) (br (ixS l i (Sh.int .i64) 0) (br (decide ((gC l i 0).toInt<n)) (br (ixI l i) (br (ixS l i (Sh.int .i64) 0) (br (rmB b a 1 8) (κl (b+1,i64.wrap (i+1),a++[AV.int .i64 (gC l i 0).toInt])) δ) δ) δ) (κr (b,i,a))) δ) δ) (κr (b,i,a))
def xbx (l:LA) (n:Int):StT (Nat×Int×LA) (Nat×Int×LA):=fun (b,i,a)=>xf1 l n b i a none inL inR
def xkS:=xFu.l 58 0 [] [] Tryz.f47 0 lk0 [0,1,5,6] [0,1,5,6] [(5,1,3)] (q4 (qL 1) qI (xPE 0 0 0) qI) (q1 (qB 0 1 3 xPv)) (fun (l,n,b,i,_) (a,_)=>(xbx l n,(b,i,a),fun p=>(.leaf (.exit 0) [AV.list 1 l,AV.int .i64 n,AV.osl 0 0 0 p.1,AV.int .i64 p.2.1] [bF 0 1 3 p.2.2]))) (0,0,[]) fun (l,n,_,_,_) _ (b,i,a)=>(((l,n,b,i,()),(a,())),xf1 l n b i a none)
def xh2 {T:Type} (l:LA) (b:Nat) (i:Int) (a:LA) (δ:T) (κl:(Nat×Int×LA)->T) (κr:(Nat×LA)->T):T:=br (decide (i<l.length)) (br (ixI l i) (br (ixS l i (Sh.int .i64) 0) (br (rmB b a 1 8) (κl (b+1,i64.wrap (i+1),a++[AV.int .i64 (gC l i 0).toInt])) δ) δ) δ) (κr (b,a))
def xb0 (l:LA):StT (Nat×Int×LA) (Nat×LA):=fun (b,i,a)=>xh2 l b i a none inL inR
def xqq:=xFu.l 58 0 [] [(3,xkS.lp)] Tryz.f47 1 lk0 [0,5,6] [5] [(5,1,3)] (q3 (qL 1) (xPE 0 0 0) qI) (q1 (qB 0 1 3 xPv)) (fun (l,b,i,_) (a,_)=>(xb0 l,(b,i,a),fun p=>(.leaf (.exit 2) [AV.osl 0 0 0 p.1] [bF 0 1 3 p.2]))) (0,[]) fun (l,_,_,_) _ (b,i,a)=>(((l,b,i,()),(a,())),xh2 l b i a none)
def xgO (l:LA) (n:Int):=(Iter (xbx l n) (0,0,[])).getD (0,0,[])
def xeP (l:LA) (n:Int):=(xgO l n).fst
def xgN (l:LA) (n:Int):=(xgO l n).snd
def xbh (l:LA) (n:Int):=(xgN l n).fst
def xeN (l:LA) (n:Int):=xeP l n+1
def xeO (l:LA) (n:Int):=(xgN l n).snd
def xhq (l:LA) (n:Int):=Iter (xb0 l) (xeN l n,xbh l n,xeO l n++[AV.int .i64 n])
def xhu (l:LA) (n:Int):=Iter (xb0 l) (xeP l n,xbh l n,xeO l n)
def xi7 (l:LA) (n:Int):=xeP l n==(xeO l n).length
def xhp (l:LA) (n:Int):=(xhq l n).getD (0,[])
def xkg (l:LA) (n:Int):=(xhq l n).isSome
def xht (l:LA) (n:Int):=(xhu l n).getD (0,[])
def xhn (l:LA) (n:Int):=(xhp l n).fst
def xho (l:LA) (n:Int):=(xhp l n).snd
def xhr (l:LA) (n:Int):=(xht l n).snd
def xhs (l:LA) (n:Int):=(xht l n).fst
def xmL {T:Type} (l:LA) (n:Int) (δ:T) (κ:LA->T):T:=br (xi7 l n&&(decide (xeN l n*8<=140737488355328)&&decide (xeN l n<=4611686018427387904))) (br (xkg l n) (br (decide (0+xhn l n<=(xho l n).length)&&true) (κ (List.take (xhn l n) (List.drop 0 (xho l n)))) δ) δ) δ
def xpm {T:Type} (l:LA) (n:Int) (δ:T) (κ:LA->T):T:=br ((Iter (xbx l n) (0,0,[])).isSome) (br (xbh l n==(↑l.length:Int)) (xmL l n δ κ) (br (decide (0<=xbh l n)&&decide (xbh l n<l.length)) (br (decide ((xbh l n).toNat<l.length)&&xOI (Sh.int .i64) ((l.getD (xbh l n).toNat .top).cells.getD 0 .top)) (br (decide (((l.getD (xbh l n).toNat .top).cells.getD 0 .top).toInt>n)) (xmL l n δ κ) (br ((xhu l n).isSome) (br (decide (0+xhs l n<=(xhr l n).length)&&true) (κ (List.take (xhs l n) (List.drop 0 (xhr l n)))) δ) δ)) δ) δ)) δ
def xb3 (l:LA) (n:Int):=xpm l n none some
def xCi:EO:=xFu.f Tryz.func47 58 0 [] [(3,xkS.lp),(8,xqq.lp)] (lks (lkC xkS.ok (lkC xqq.ok lkN))) (u2 (uL 1) uI) (fun (l,n,_) _=>xpm l n) (fun _ p=>AV.list 1 p) []
def xip:Env:=xCi.E.fn 28 1 (lsOf []) (xO5 [])
theorem xzv:xOK P0 (xPq.at 1) xip:=xCi.ok.fn
theorem xwy:LoOk P0 (xPq.at xip.pin) xip (Tryz.f97.body.getD .skip):=xfx (by kernel_rfl)
def xhc {T:Type} (k:Nat) (a n:Int) (b:LA) (δ:T) (κ:Bool×(Nat×LA)×(Nat×LA)->T):T:=br (rmB k b 1 16) (κ (false,(0,[]),(k+1,b++[AV.agg [AV.int .i64 a,AV.int .i64 n]]))) δ
def xjT {T:Type} (k:Nat) (a n:Int) (b:LA) (δ:T) (κ:Bool×(Nat×LA)×(Nat×LA)->T):T:=br (decide ((↑k:Int)>0)) (br (decide (0<=i64.wrap ((↑k:Int) - 1))&&decide (i64.wrap ((↑k:Int) - 1)<(↑k:Int))) (br (decide (0+(i64.wrap ((↑k:Int) - 1)).toNat<b.length)&&xOI (Sh.int .i64) ((b.getD (0+(i64.wrap ((↑k:Int) - 1)).toNat) .top).cells.getD 1 .top)) (br (((b.getD (0+(i64.wrap ((↑k:Int) - 1)).toNat) .top).cells.getD 1 .top).toInt==n) (κ (true,(k,b),(0,[]))) (xhc k a n b δ κ)) δ) δ) (xhc k a n b δ κ)
def xcu (k:Nat) (a n:Int) (b:LA):=xjT k a n b none some
theorem xEr (k:Nat) (a n:Int) (xs:LA):Enc (fun (p:Bool×(Nat×LA)×(Nat×LA))=>((br p.1 ((AV.osl 0 0 0 p.2.1.1,([⟨0,2,121,p.2.1.2,false,true⟩]:List Box))) ((AV.osl 0 1 0 p.2.2.1,([⟨1,2,121,p.2.2.2,false,true⟩]:List Box)))):(AV×List Box))) (xcu k a n xs) (XFM P0 xip Tryz.f97 (Tryz.f97.body.getD .skip) [AV.osl (0:Id) 0 0 k,AV.int .i64 a,AV.int .i64 n] [{ ver:=0,sz:=2,ty:=(121:TypeId),xs:=xs,frz:=false,pm:=true }]):=by
 have h:XFM P0 xip Tryz.f97 (Tryz.f97.body.getD .skip) [AV.osl (0:Id) 0 0 k,AV.int .i64 a,AV.int .i64 n] [{ ver:=0,sz:=2,ty:=(121:TypeId),xs:=xs,frz:=false,pm:=true }]=xjT k a n xs none (fun (p:Bool×(Nat×LA)×(Nat×LA))=>some ((br p.1 ((AV.osl 0 0 0 p.2.1.1,([⟨0,2,121,p.2.1.2,false,true⟩]:List Box))) ((AV.osl 0 1 0 p.2.2.1,([⟨1,2,121,p.2.2.2,false,true⟩]:List Box)))):(AV×List Box))):=by kernel_rfl
 rw [h];unfold xcu xjT xhc;repeat' (first|refine Enc.br ?_ ?_|exact Enc.none|exact Enc.some rfl)
def xEq:LA->List Box->Option (Bool×AV×List Box):=omOf (xPs (sEq (xPE 0 0 0)) (xPs (sEq (pInt .i64)) (xPs (sEq (pInt .i64)) xPu))) (xPr (xPH 0 2 (121:TypeId) false true xPv) xPt) fun (k,(a,(n,_))) (b,_)=>((xcu k a n b).isSome,(AV.osl 0 1 0 (br ((xcu k a n b).getD (false,(0,[]),(0,[]))).1 ((xcu k a n b).getD (false,(0,[]),(0,[]))).2.1.1 ((xcu k a n b).getD (false,(0,[]),(0,[]))).2.2.1),([⟨1,2,121,(br ((xcu k a n b).getD (false,(0,[]),(0,[]))).1 ((xcu k a n b).getD (false,(0,[]),(0,[]))).2.1.2 ((xcu k a n b).getD (false,(0,[]),(0,[]))).2.2.2),false,true⟩]:List Box)))
theorem xEp:OmOk P0 xPq 97 (xEq):=xrW fun e f j i g=>by
 obtain ⟨k,⟨b,⟨n,_⟩⟩⟩:=e;obtain ⟨h,_⟩:=f;obtain ⟨c,a⟩:=Prod.mk.inj g;have hx:=xEr _ _ _ _ _ (xaJ (d:=(false,(0,[]),(0,[]))) c);revert hx a;generalize ((xcu k b n h).getD (false,(0,[]),(0,[])))=p;intro a hx;obtain ⟨rfl,rfl⟩:=Prod.mk.inj a;obtain ⟨t,⟨l,m⟩,o,q⟩:=p;have hg:GoodM P0 xPq 97 _ _ _ _:=xne (p:=xip.pin) (xnd xOT (xOU P0 _) rfl xzv rfl Tryz.func97 rfl (by kernel_rfl) xwy hx)
 cases t
 . exact hg
 . exact GoodM.bump1 rfl (by decide) hg
def xyR:EO:=xCi.wM xEp
def xih (l:LA) (i:Int):=ixI l i
def xmm {T:Type} (l a:LA) (i:Int) (δ:T) (κl:(LA×Int)->T) (κr:(LA)->T):T:=br (decide (i<l.length)) (br (xih l i) (br (ixT l i 3 [Sh.int .i64,Sh.int .i64] 0) (br (xe6 (gC l i 0).toInt (gC l i 1).toInt) (br (xih l i) (br (ixS l i (Sh.int .i64) 0) (br ((xb3 a (gC l i 0).toInt).isSome) (br (xih l i) (br (ixS l i (Sh.int .i64) 1) (br ((xb3 ((xb3 a (gC l i 0).toInt).getD []) (gC l i 1).toInt).isSome) (κl ((xb3 ((xb3 a (gC l i 0).toInt).getD []) (gC l i 1).toInt).getD [],i64.wrap (i+1))) δ) δ) δ) δ) δ) δ) (κl (a,i64.wrap (i+1)))) δ) δ) (κr (a))
def xeQ (l:LA):StT (LA×Int) (LA):=fun (a,i)=>xmm l a i none inL inR
def xlr:=xyR.l 82 0 [] [] Tryz.f68 0 lk0 [0,3,4] [0,3] [(3,1,1073741824)] (q3 (qL 3) (qL 1) qI) xPt (fun (l,a,i,_) _=>(xeQ l,(a,i),fun p=>(.leaf (.exit 0) [AV.list 3 l,AV.list 1 p] []))) [] fun (l,_,_,_) _ (a,i)=>(((l,a,i,()),()),xmm l a i none)
def xmn {T:Type} (l b:LA) (c:Nat) (k n i:Int) (a:LA) (δ:T) (κl:(Int×Int×LA)->T) (κr:(Int×LA)->T):T:=br (decide (i<l.length)) (br (ixI l i) (br (ixT l i 3 [Sh.int .i64,Sh.int .i64] 0) (br (ixI b k) (br (ixS b k (Sh.int .i64) 0) (br (xif (gC l i 0).toInt (gC l i 1).toInt (gC b k 0).toInt) (br (ixI l i) (br (ixS l i (Sh.int .i64) 2) (κl (i64.wrap (n+(gC l i 2).toInt),i64.wrap (i+1),a)) δ) δ) (κl (n,i64.wrap (i+1),a))) δ) δ) δ) δ) (κr (n,a))
def xeS (l c:LA) (b:Nat) (k:Int):StT (Int×Int×LA) (Int×LA):=fun (n,i,a)=>xmn l c b k n i a none inL inR
def xls:=xyR.l 82 0 [] [(3,xlr.lp)] Tryz.f68 2 lk0 [0,3,5,6,7,8] [0,3,5,6,7] [(5,2,121),(3,1,1073741824)] (q6 (qL 3) (qL 1) (xPE 0 0 0) qI qI qI) (q1 (qB 0 2 121 xPv)) (fun (l,c,a,k,n,i,_) (b,_)=>(xeS l c a k,(n,i,b),fun p=>(.leaf (.exit 4) [AV.list 3 l,AV.list 1 c,AV.osl 0 0 0 a,AV.int .i64 k,AV.int .i64 p.1] [bF 0 2 121 p.2]))) (0,[]) fun (l,c,a,k,_,_,_) _ (n,i,b)=>(((l,c,a,k,n,i,()),(b,())),xmn l c a k n i b none)
def xio (l c:LA) (b:Nat) (k:Int) (a:LA):=(Iter (xeS l c b k) (0,0,a)).getD (0,[])
def xin (l c:LA) (a:Nat) (k:Int) (b:LA):=xcu a (gC c k 0).toInt (xio l c a k b).fst (xio l c a k b).snd
def xim (l c:LA) (b:Nat) (k:Int) (a:LA):=(xin l c b k a).getD (false,(0,[]),0,[])
def xik (l c:LA) (b:Nat) (k:Int) (a:LA):=(xim l c b k a).snd
def xil (l c:LA) (b:Nat) (k:Int) (a:LA):=(xim l c b k a).fst
def xii (l c:LA) (b:Nat) (k:Int) (a:LA):=(xik l c b k a).snd
def xij (l c:LA) (b:Nat) (k:Int) (a:LA):=(xik l c b k a).fst
def xjL {T:Type} (l c:LA) (b:Nat) (k:Int) (a:LA) (δ:T) (κl:(Nat×Int×LA)->T) (κr:(Nat×LA)->T):T:=br (decide (k<c.length)) (br (ixI c k) (br (ixS c k (Sh.int .i64) 0) (br (decide ((gC c k 0).toInt<1099511627776)) (br ((Iter (xeS l c b k) (0,0,a)).isSome) (br (ixI c k) (br (ixS c k (Sh.int .i64) 0) (br ((xin l c b k a).isSome) (κl (br (xil l c b k a) (xij l c b k a).fst (xii l c b k a).fst,i64.wrap (k+1),br (xil l c b k a) (xij l c b k a).snd (xii l c b k a).snd)) δ) δ) δ) δ) (κr (b,a))) δ) δ) (κr (b,a))
def xeR (l c:LA):StT (Nat×Int×LA) (Nat×LA):=fun (b,k,a)=>xjL l c b k a none inL inR
def xuk:=xyR.l 82 0 [] [(3,xlr.lp),(14,xls.lp)] Tryz.f68 1 (lk1 xls.ok) [0,3,5,6] [5] [(5,2,121),(3,1,1073741824)] (q4 (qL 3) (qL 1) (xPE 0 0 0) qI) (q1 (qB 0 2 121 xPv)) (fun (l,c,b,k,_) (a,_)=>(xeR l c,(b,k,a),fun p=>(.leaf (.exit 2) [AV.osl 0 0 0 p.1] [bF 0 2 121 p.2]))) (0,[]) fun (l,c,_,_,_) _ (b,k,a)=>(((l,c,b,k,()),(a,())),xjL l c b k a none)
def xtN (l:LA):=Iter (xeR l ((Iter (xeQ l) ([AV.int .i64 0],0)).getD [])) (0,0,[])
def xtM (l:LA):=(xtN l).getD (0,[])
def xtK (l:LA):=(xtM l).fst
def xtL (l:LA):=(xtM l).snd
def xuT {T:Type} (l:LA) (δ:T) (κ:LA->T):T:=br ((Iter (xeQ l) ([AV.int .i64 0],0)).isSome) (br ((xtN l).isSome) (br (decide (0+xtK l<=(xtL l).length)&&true) (κ (List.take (xtK l) (List.drop 0 (xtL l)))) δ) δ) δ
def xsi (l:LA):=xuT l none some
def xGT:EO:=xyR.f Tryz.func68 82 0 [] [(3,xlr.lp),(14,xls.lp),(10,xuk.lp)] (lks (lkC xlr.ok (lkC xuk.ok (lkC xls.ok lkN)))) (u1 (uL 3)) (fun (l,_) _=>xuT l) (fun _ p=>AV.list 2 p) []
def xh8 {T:Type} (l c:LA) (b:Nat) (i:Int) (a:LA) (δ:T) (κl:(Nat×Int×LA)->T) (κr:(Nat×LA)->T):T:=br (decide (i<l.length)) (br (ixI l i) (br (ixS l i (Sh.list 3) 0) (br ((xat (gC l i 0).toList c).isSome) (br ((xat (gC l i 0).toList c).getD 0==0) (br (ixI l i) (br (ixT l i 3 [Sh.int .i64,Sh.int .i64] 1) (br (rmB b a 1 24) (κl (b+1,i64.wrap (i+1),a++[AV.agg [AV.int .i64 (gC l i 1).toInt,AV.int .i64 (gC l i 2).toInt,AV.int .i64 1]])) δ) δ) δ) (κl (b,i64.wrap (i+1),a))) δ) δ) δ) (κr (b,a))
def xcS (l b:LA):StT (Nat×Int×LA) (Nat×LA):=fun (c,i,a)=>xh8 l b c i a none inL inR
def xqB:=xGT.l 32 0 [] [] Tryz.f92 0 lk0 [0,1,5,6] [5] [(5,3,88)] (q4 (qL 3) (qL 3) (xPE 0 0 0) qI) (q1 (qB 0 3 88 xPv)) (fun (l,b,c,i,_) (a,_)=>(xcS l b,(c,i,a),fun p=>(.leaf (.exit 0) [AV.osl 0 0 0 p.1] [bF 0 3 88 p.2]))) (0,[]) fun (l,b,_,_,_) _ (c,i,a)=>(((l,b,c,i,()),(a,())),xh8 l b c i a none)
def xoq (l a:LA):=(Iter (xcS l a) (0,0,[])).getD (0,[])
def xon (l a:LA):=(xoq l a).fst
def xoo (l a:LA):=(xoq l a).snd
def xom (l a:LA):=xsi (List.take (xon l a) (List.drop 0 (xoo l a)))
def xpK {T:Type} (l a:LA) (δ:T) (κ:LA->T):T:=br ((Iter (xcS l a) (0,0,[])).isSome) (br (decide (0+xon l a<=(xoo l a).length)&&true) (br ((xom l a).isSome) (κ ((xom l a).getD [])) δ) δ) δ
def xol (l a:LA):=xpK l a none some
def xyS:EO:=xGT.f Tryz.func92 32 0 [] [(3,xqB.lp)] (lk1 xqB.ok) (u2 (uL 3) (uL 3)) (fun (l,a,_) _=>xpK l a) (fun _ p=>AV.list 2 p) []
def xf3 {T:Type} (a:LA) (c:Nat) (i k:Int) (b:LA) (δ:T) (κl:(Int×LA)->T) (κr:(Int×LA)->T):T:=br (decide (k<a.length)) (br (ixI a k) (br (ixS a k (Sh.list 3) 0) (br (ixI a i) (br (ixS a i (Sh.list 3) 0) (br ((xat (gC a k 0).toList (gC a i 0).toList).isSome) (br ((xat (gC a k 0).toList (gC a i 0).toList).getD 0==0) (κl (i64.wrap (k+1),b)) (κr (k,b))) δ) δ) δ) δ) δ) (κr (k,b))
def xbk (c:LA) (b:Nat) (i:Int):StT (Int×LA) (Int×LA):=fun (k,a)=>xf3 c b i k a none inL inR
def xfu:=xyS.l 66 0 [] [] Tryz.f63 1 lk0 [3,4,5,6] [3,4,5,6] [(4,2,111)] (q4 (qL 3) (xPE 0 0 0) qI qI) (q1 (qB 0 2 111 xPv)) (fun (c,a,i,k,_) (b,_)=>(xbk c a i,(k,b),fun p=>(.leaf (.exit 2) [AV.list 3 c,AV.osl 0 0 0 a,AV.int .i64 i,AV.int .i64 p.1] [bF 0 2 111 p.2]))) (0,[]) fun (c,a,i,_,_) _ (k,b)=>(((c,a,i,k,()),(b,())),xf3 c a i k b none)
def xf4 {T:Type} (d:LA) (i k:Int) (a:LA) (c:Nat) (n:Int) (b:LA) (δ:T) (κl:(Nat×Int×LA)->T) (κr:(Nat×LA)->T):T:=br (decide (n<a.length)) (br (ixI a n) (br (ixS a n (Sh.list 3) 0) (br (decide (0<=k)&&decide (k<=d.length)&&(decide (0<=i)&&decide (i<=(↑k.toNat:Int)))) (br (ixI a n) (br (ixS a n (Sh.list 3) 0) (br ((xol (List.take (k.toNat - i.toNat) (List.drop i.toNat d)) (gC a n 0).toList).isSome) (br (rmB c b 1 48) (κl (c+1,i64.wrap (n+1),b++[AV.agg [AV.list 3 (gC a n 0).toList,AV.list 2 ((xol (List.take (k.toNat - i.toNat) (List.drop i.toNat d)) (gC a n 0).toList).getD [])]])) δ) δ) δ) δ) δ) δ) δ) (κr (c,b))
def xcU (d:LA) (i k:Int) (c:LA):StT (Nat×Int×LA) (Nat×LA):=fun (b,n,a)=>xf4 d i k c b n a none inL inR
def xhA:=xyS.l 66 0 [] [(6,xfu.lp)] Tryz.f63 2 lk0 [3,4,5,6,7,8] [3,4,6] [(4,2,111)] (q6 (qL 3) (xPE 0 0 0) qI qI (qL 1) qI) (q1 (qB 0 2 111 xPv)) (fun (d,b,i,k,c,n,_) (a,_)=>(xcU d i k c,(b,n,a),fun p=>(.leaf (.exit 4) [AV.list 3 d,AV.osl 0 0 0 p.1,AV.int .i64 k] [bF 0 2 111 p.2]))) (0,[]) fun (d,_,i,k,c,_,_) _ (b,n,a)=>(((d,b,i,k,c,n,()),(a,())),xf4 d i k c b n a none)
def xbT (c:LA) (b:Nat) (i:Int) (a:LA):=((Iter (xbk c b i) (i,a)).getD (0,[])).fst
def xkY (c:LA) (a:Nat) (i:Int) (b:LA):=Iter (xcU c i (xbT c a i b) ((xlv (List.take ((xbT c a i b).toNat - i.toNat) (List.drop i.toNat c))).getD [])) (a,0,((Iter (xbk c a i) (i,b)).getD (0,[])).snd)
def xkX (c:LA) (b:Nat) (i:Int) (a:LA):=(xkY c b i a).getD (0,[])
def xia {T:Type} (c:LA) (b:Nat) (i:Int) (a:LA) (δ:T) (κl:(Nat×Int×LA)->T) (κr:(Nat×LA)->T):T:=br (decide (i<c.length)) (br ((Iter (xbk c b i) (i,a)).isSome) (br (decide (0<=xbT c b i a)&&decide (xbT c b i a<=c.length)&&(decide (0<=i)&&decide (i<=(↑(xbT c b i a).toNat:Int)))) (br ((xlv (List.take ((xbT c b i a).toNat - i.toNat) (List.drop i.toNat c))).isSome) (br ((xkY c b i a).isSome) (κl ((xkX c b i a).fst,xbT c b i a,(xkX c b i a).snd)) δ) δ) δ) δ) (κr (b,a))
def xcT (c:LA):StT (Nat×Int×LA) (Nat×LA):=fun (b,i,a)=>xia c b i a none inL inR
def xqD:=xyS.l 66 0 [] [(6,xfu.lp),(10,xhA.lp)] Tryz.f63 0 (lks (lkC xfu.ok (lkC xhA.ok lkN))) [3,4,5] [4] [(4,2,111)] (q3 (qL 3) (xPE 0 0 0) qI) (q1 (qB 0 2 111 xPv)) (fun (c,b,i,_) (a,_)=>(xcT c,(b,i,a),fun p=>(.leaf (.exit 0) [AV.osl 0 0 0 p.1] [bF 0 2 111 p.2]))) (0,[]) fun (c,_,_,_) _ (b,i,a)=>(((c,b,i,()),(a,())),xia c b i a none)
def xoA (l:LA):=Iter (xcT ((xbl 100 l).getD [])) (0,0,[])
def xoz (l:LA):=(xoA l).getD (0,[])
def xow (l:LA):=(xoz l).snd
def xoy (l:LA):=(xoz l).fst
def xpR {T:Type} (l:LA) (δ:T) (κ:LA->T):T:=br ((xbl 100 l).isSome) (br ((xoA l).isSome) (br (decide (0+xoy l<=(xow l).length)&&true) (κ (List.take (xoy l) (List.drop 0 (xow l)))) δ) δ) δ
def xkW (l:LA):=xpR l none some
def xGU:EO:=xyS.f Tryz.func63 66 0 [] [(6,xfu.lp),(10,xhA.lp),(4,xqD.lp)] (lks (lkC xqD.ok (lkC xfu.ok (lkC xhA.ok lkN)))) (u1 (uL 3)) (fun (l,_) _=>xpR l) (fun _ p=>AV.list 2 p) []
def xdn (l:LA) (n i:Int):=decide ((gC l i 1).toInt>=n)
def xbj (l:LA) (i:Int):=ixI l i
def xcO (l:LA) (b:Nat) (i:Int) (a:LA):=(xa4 b (gC l i 0).toInt 1099511627776 a).getD (false,(0,[],[]),0,[])
def xcP (l:LA) (b:Nat) (i:Int) (a:LA):=xa4 b (gC l i 0).toInt ((l.getD (i64.wrap (i+1)).toNat .top).cells.getD 0 .top).toInt a
def xcQ (l:LA) (i:Int):=decide (i64.wrap (i+1)<(↑l.length:Int))
def xdu (l:LA) (b:Nat) (i:Int) (a:LA):=(xcP l b i a).getD (false,(0,[],[]),0,[])
def xdv (l:LA) (b:Nat) (i:Int) (a:LA):=(xcO l b i a).snd
def xdw (l:LA) (b:Nat) (i:Int) (a:LA):=(xcO l b i a).fst
def xdq (l:LA) (b:Nat) (i:Int) (a:LA):=(xdu l b i a).snd
def xdr (l:LA) (b:Nat) (i:Int) (a:LA):=(xdu l b i a).fst
def xds (l:LA) (b:Nat) (i:Int) (a:LA):=(xdv l b i a).snd
def xdt (l:LA) (b:Nat) (i:Int) (a:LA):=(xdv l b i a).fst
def xdo (l:LA) (b:Nat) (i:Int) (a:LA):=(xdq l b i a).snd
def xdp (l:LA) (b:Nat) (i:Int) (a:LA):=(xdq l b i a).fst
def xct {T:Type} (l:LA) (n:Int) (b:Nat) (i:Int) (a:LA) (δ:T) (κl:(Nat×Int×LA)->T) (κr:(Nat×LA)->T):T:=br (decide (i<l.length)) (br (xcQ l i) (br (decide (0<=i64.wrap (i+1))&&xcQ l i) (br (decide ((i64.wrap (i+1)).toNat<l.length)&&xOI (Sh.int .i64) ((l.getD (i64.wrap (i+1)).toNat .top).cells.getD 0 .top)) (br (xbj l i) (br (ixS l i (Sh.int .i64) 1) (br (xdn l n i) (br (xbj l i) (br (ixS l i (Sh.int .i64) 0) (br ((xcP l b i a).isSome) (κl (br (xdr l b i a) (xdp l b i a).fst (xdo l b i a).fst,i64.wrap (i+1),br (xdr l b i a) (xdp l b i a).snd.snd (xdo l b i a).snd)) δ) δ) δ) (κl (b,i64.wrap (i+1),a))) δ) δ) δ) δ) (br (xbj l i) (br (ixS l i (Sh.int .i64) 1) (br (xdn l n i) (br (xbj l i) (br (ixS l i (Sh.int .i64) 0) (br ((xa4 b (gC l i 0).toInt 1099511627776 a).isSome) (κl (br (xdw l b i a) (xdt l b i a).fst (xds l b i a).fst,i64.wrap (i+1),br (xdw l b i a) (xdt l b i a).snd.snd (xds l b i a).snd)) δ) δ) δ) (κl (b,i64.wrap (i+1),a))) δ) δ)) (κr (b,a))
def xaE (l:LA) (n:Int):StT (Nat×Int×LA) (Nat×LA):=fun (b,i,a)=>xct l n b i a none inL inR
def xoU:=xGU.l 42 0 [] [] Tryz.f65 0 lk0 [0,1,5,6] [5] [(5,2,50)] (q4 (qL 2) qI (xPE 0 0 0) qI) (q1 (qB 0 2 50 xPv)) (fun (l,n,b,i,_) (a,_)=>(xaE l n,(b,i,a),fun p=>(.leaf (.exit 0) [AV.osl 0 0 0 p.1] [bF 0 2 50 p.2]))) (0,[]) fun (l,n,_,_,_) _ (b,i,a)=>(((l,n,b,i,()),(a,())),xct l n b i a none)
def xmP (l:LA) (n:Int):=(Iter (xaE l n) (0,0,[])).getD (0,[])
def xmN (l:LA) (n:Int):=(xmP l n).fst
def xmO (l:LA) (n:Int):=(xmP l n).snd
def xn3 {T:Type} (l:LA) (n:Int) (δ:T) (κ:LA->T):T:=br ((Iter (xaE l n) (0,0,[])).isSome) (br (decide (0+xmN l n<=(xmO l n).length)&&true) (κ (List.take (xmN l n) (List.drop 0 (xmO l n)))) δ) δ
def xcI (l:LA) (n:Int):=xn3 l n none some
def xGV:EO:=xGU.f Tryz.func65 42 0 [] [(3,xoU.lp)] (lk1 xoU.ok) (u2 (uL 2) uI) (fun (l,n,_) _=>xn3 l n) (fun _ p=>AV.list 2 p) []
def xh9 {T:Type} (d c:LA) (b:Nat) (i:Int) (a:LA) (δ:T) (κl:(Nat×Int×LA)->T) (κr:(Nat×LA)->T):T:=br (decide (i<c.length)) (br (ixI c i) (br (ixT c i 2 [Sh.int .i64,Sh.int .i64] 0) (br (rmB b a 1 40) (κl (b+1,i64.wrap (i+1),a++[AV.agg [AV.list 3 d,AV.int .i64 (gC c i 0).toInt,AV.int .i64 (gC c i 1).toInt]])) δ) δ) δ) (κr (b,a))
def xb1 (c d:LA):StT (Nat×Int×LA) (Nat×LA):=fun (b,i,a)=>xh9 c d b i a none inL inR
def xqC:=xGV.l 23 0 [] [] Tryz.f64 0 lk0 [0,1,5,6] [5] [(5,3,58)] (q4 (qL 3) (qL 2) (xPE 0 0 0) qI) (q1 (qB 0 3 58 xPv)) (fun (c,d,b,i,_) (a,_)=>(xb1 c d,(b,i,a),fun p=>(.leaf (.exit 0) [AV.osl 0 0 0 p.1] [bF 0 3 58 p.2]))) (0,[]) fun (c,d,_,_,_) _ (b,i,a)=>(((c,d,b,i,()),(a,())),xh9 c d b i a none)
def xou (a b:LA):=(Iter (xb1 a b) (0,0,[])).getD (0,[])
def xos (a b:LA):=(xou a b).snd
def xot (a b:LA):=(xou a b).fst
def xpL {T:Type} (a b:LA) (δ:T) (κ:LA->T):T:=br ((Iter (xb1 a b) (0,0,[])).isSome) (br (decide (0+xot a b<=(xos a b).length)&&true) (κ (List.take (xot a b) (List.drop 0 (xos a b)))) δ) δ
def xor (a b:LA):=xpL a b none some
def xGW:EO:=xGV.f Tryz.func64 23 0 [] [(3,xqC.lp)] (lk1 xqC.ok) (u2 (uL 3) (uL 2)) (fun (a,b,_) _=>xpL a b) (fun _ p=>AV.list 3 p) []
def xov (g:LA) (i:Int):=(xor (gC g i 0).toList ((xcI (gC g i 1).toList 1).getD [])).getD []
def xkq (g:LA) (a:Nat) (i:Int):=a+(xov g i).length
def xlw {T:Type} (g:LA) (a:Nat) (i:Int) (b:LA) (δ:T) (κl:(Nat×Int×LA)->T) (κr:(Nat×LA)->T):T:=br (decide (i<g.length)) (br (ixI g i) (br (ixS g i (Sh.list 3) 0) (br (ixI g i) (br (ixS g i (Sh.list 2) 1) (br ((xcI (gC g i 1).toList 1).isSome) (br ((xor (gC g i 0).toList ((xcI (gC g i 1).toList 1).getD [])).isSome) (br (a==b.length&&(decide (xkq g a i*40<=140737488355328)&&decide (xkq g a i<=4611686018427387904))) (κl (xkq g a i,i64.wrap (i+1),b++xov g i)) δ) δ) δ) δ) δ) δ) δ) (κr (a,b))
def xel (g:LA):StT (Nat×Int×LA) (Nat×LA):=fun (b,i,a)=>xlw g b i a none inL inR
def xtm:=xGW.l 29 0 [] [] Tryz.f35 0 lk0 [3,4,5] [4] [(4,3,58)] (q3 (qL 2) (xPE 0 0 0) qI) (q1 (qB 0 3 58 xPv)) (fun (g,b,i,_) (a,_)=>(xel g,(b,i,a),fun p=>(.leaf (.exit 0) [AV.osl 0 0 0 p.1] [bF 0 3 58 p.2]))) (0,[]) fun (g,_,_,_) _ (b,i,a)=>(((g,b,i,()),(a,())),xlw g b i a none)
def xsH (l:LA):=(Iter (xel ((xkW l).getD [])) (0,0,[])).getD (0,[])
def xsF (l:LA):=(xsH l).snd
def xsG (l:LA):=(xsH l).fst
def xtW {T:Type} (l:LA) (δ:T) (κ:LA->T):T:=br ((xkW l).isSome) (br ((Iter (xel ((xkW l).getD [])) (0,0,[])).isSome) (br (decide (0+xsG l<=(xsF l).length)&&true) (κ (List.take (xsG l) (List.drop 0 (xsF l)))) δ) δ) δ
def xtl (l:LA):=xtW l none some
def xGX:EO:=xGW.f Tryz.func35 29 0 [] [(4,xtm.lp)] (lk1 xtm.ok) (u1 (uL 3)) (fun (l,_) _=>xtW l) (fun _ p=>AV.list 3 p) []
def xlu {T:Type} (l:LA) (i:Int) (δ:T) (κl:(Int)->T) (κr:(Bool×(Bool)×(Unit))->T):T:=br (decide (i<l.length)) (br (ixI l i) (br (ixS l i (Sh.list 3) 0) (br (decide ((↑(gC l i 0).toList.length:Int)>60)) (κr (true,(false),())) (κl (i64.wrap (i+1)))) δ) δ) (κr (false,false,()))
def xdc (l:LA):StT (Int) (Bool×(Bool)×(Unit)):=fun (i)=>xlu l i none inL inR
def xtk:=xGX.l 23 0 [] [] Tryz.f27 0 lk0 [0,5] [4] [] (q2 (qL 3) qI) xPt (fun (l,i,_) _=>(xdc l,(i),fun p=>(.node p.1 (.leaf .ret [AV.bool p.2.1] []) (.leaf (.exit 0) [.top] [])))) (false,false,()) fun (l,_,_) _ (i)=>(((l,i,()),()),xlu l i none)
def xtV {T:Type} (l:LA) (a:Int) (δ:T) (κ:Bool->T):T:=br (decide ((↑l.length:Int)>a)) (κ (false)) (br ((Iter (xdc l) 0).isSome) (br (((Iter (xdc l) 0).getD (false,false,())).fst) (κ (((Iter (xdc l) 0).getD (false,false,())).snd.fst)) (κ (true))) δ)
def xtj (l:LA) (a:Int):=xtV l a none some
def xLt:EO:=xGX.f Tryz.func27 23 0 [] [(4,xtk.lp)] (lk1 xtk.ok) (u2 (uL 3) uI) (fun (l,a,_) _=>xtV l a) (fun _ p=>AV.bool p) false
def xGF:Int×Int×List UInt8:=((0,0,[]))
def xDO {T:Type} (δ:T) (κ:Int×Int×List UInt8->T):T:=κ (0,0,[])
def xLa:EO:=xCb.fT Tryz.func119 2 0 [] [] lk0 (fun _=>xDO none) xPu (fun _=>xGF) (fun _ p=>(AV.agg [AV.int .i64 p.1,AV.int .i64 p.2.1,AV.str p.2.2]))
def xu8 {T:Type} (a:LA) (i:Int) (δ:T) (κ:Int×Int×List UInt8->T):T:=br (decide (i<0)) (κ (0,0,[])) (br (decide (i>=a.length)) (κ (0,0,[])) (br (ixI a i) (br (ixT a i 3 [Sh.int .i64,Sh.int .i64,Sh.str] 0) (κ ((gC a i 0).toInt,(gC a i 1).toInt,(gC a i 2).toStr)) δ) δ))
def xu7 (a:LA) (i:Int):=xu8 a i none some
def xGK:EO:=xLa.f Tryz.func90 18 0 [] [] lk0 (u2 (uL 3) uI) (fun (a,i,_) _=>xu8 a i) (fun _ p=>AV.agg [AV.int .i64 p.1,AV.int .i64 p.2.1,AV.str p.2.2]) (0,0,[])
def xjz (a b:LA) (c:Int):=(xu7 a (gC b c 0).toInt).getD (0,0,[])
def xjy (a b:LA) (c:Int):=(xjz a b c).snd
def xkt {T:Type} (e c:LA) (f:Int) (d:Nat) (a:Int) (b:LA) (δ:T) (κl:(Nat×Int×LA)->T) (κr:(Nat×LA)->T):T:=br (decide (a<f)) (br (ixI c a) (br (ixS c a (Sh.int .i64) 0) (br ((xu7 e (gC c a 0).toInt).isSome) (br (rmB d b 1 32) (κl (d+1,i64.wrap (a+1),b++[AV.agg [AV.int .i64 (xjz e c a).fst,AV.int .i64 (xjy e c a).fst,AV.str (xjy e c a).snd]])) δ) δ) δ) δ) (κr (d,b))
def xd3 (c d:LA) (e:Int):StT (Nat×Int×LA) (Nat×LA):=fun (b,f,a)=>xkt c d e b f a none inL inR
def xsV:=xGK.l 25 0 [] [] Tryz.f62 0 lk0 [0,5,11,12,13] [5] [(5,3,64)] (q5 (qL 3) (xPE 0 0 0) (qL 1) qI qI) (q1 (qB 0 3 64 xPv)) (fun (c,b,d,e,f,_) (a,_)=>(xd3 c d e,(b,f,a),fun p=>(.leaf (.exit 0) [AV.osl 0 0 0 p.1] [bF 0 3 64 p.2]))) (0,[]) fun (c,_,d,e,_,_) _ (b,f,a)=>(((c,b,d,e,f,()),(a,())),xkt c d e b f a none)
def xrr (a l:LA):=(Iter (xd3 a l (↑l.length:Int)) (0,0,[])).getD (0,[])
def xrp (a l:LA):=(xrr a l).fst
def xrq (a l:LA):=(xrr a l).snd
def xsW {T:Type} (a l:LA) (δ:T) (κ:LA->T):T:=br (decide (32*(↑l.length:Int)<=281474976710656)&&decide ((↑l.length:Int)<=4611686018427387904)) (br ((Iter (xd3 a l (↑l.length:Int)) (0,0,[])).isSome) (br (decide (0+xrp a l<=(xrq a l).length)&&true) (κ (List.take (xrp a l) (List.drop 0 (xrq a l)))) δ) δ) δ
def xrT (a l:LA):=xsW a l none some
def xLb:EO:=xGK.f Tryz.func62 25 0 [] [(3,xsV.lp)] (lk1 xsV.ok) (u2 (uL 3) (uL 1)) (fun (a,l,_) _=>xsW a l) (fun _ p=>AV.list 3 p) []
def xsJ {T:Type} (f:List UInt8) (c a d e b:LA) (δ:T) (κ:LA->T):T:=br ((xrT b a).isSome) (κ ((xrT b a).getD [])) δ
def xeg (e:List UInt8) (b a c d f:LA):=xsJ e b a c d f none some
def xDE:LA->Option (Bool×AV):=fnO (u2 (xPJ (u5 (sEq pStr) (uL 3) (uL 1) (uL 2) (uL 7))) (uL 3)) (fun ((e,b,a,c,d,_),f,_) _=>xsJ e b a c d f) (fun _ p=>AV.list 3 p) []
theorem xDD:OcOk P0 xPq 34 xDE:=fnC xLb.ok Tryz.func34 9 0 [] [] lk0
def xgj {T:Type} (a:List UInt8) (i:Int) (δ:T) (κl:(Int)->T) (κr:(Bool×(Bool)×(Unit))->T):T:=br (decide (i<a.length)) (br (decide (0<=i)&&decide (i<a.length)) (br (decide ((↑(a.getD i.toNat (0:UInt8)).toNat:Int)<32)) (κr (true,(false),())) (br (decide (0<=i)&&decide (i<a.length)) (br (decide ((↑(a.getD i.toNat (0:UInt8)).toNat:Int)>126)) (κr (true,(false),())) (κl (i64.wrap (i+1)))) δ)) δ) (κr (false,false,()))
def xbb (a:List UInt8):StT (Int) (Bool×(Bool)×(Unit)):=fun (i)=>xgj a i none inL inR
def xnh:=xuc.l 20 0 [] [] Tryz.f128 0 lk0 [0,3] [2] [] (q2 pStr qI) xPt (fun (a,i,_) _=>(xbb a,(i),fun p=>(.node p.1 (.leaf .ret [AV.bool p.2.1] []) (.leaf (.exit 0) [.top] [])))) (false,false,()) fun (a,_,_) _ (i)=>(((a,i,()),()),xgj a i none)
def xlP {T:Type} (a:List UInt8) (δ:T) (κ:Bool->T):T:=br ((Iter (xbb a) 0).isSome) (br (((Iter (xbb a) 0).getD (false,false,())).fst) (κ (((Iter (xbb a) 0).getD (false,false,())).snd.fst)) (κ (true))) δ
def xki (a:List UInt8):=xlP a none some
def xG3:EO:=xuc.f Tryz.func128 20 0 [] [(2,xnh.lp)] (lk1 xnh.ok) (u1 (sEq pStr)) (fun (a,_) _=>xlP a) (fun _ p=>AV.bool p) false
def xqx {T:Type} (c a:Int) (b:List UInt8) (δ:T) (κ:Bool->T):T:=br (c==0) (br (a==0) (κ (b==[])) (κ (false))) (br (c==1) (br (b==[]) (br (decide (a>=(-1125899906842624))) (κ (decide (a<=1125899906842624))) (κ (false))) (κ (false))) (br (c==2) (br (a==0) (br (decide ((↑b.length:Int)<=200)) (br ((xki b).isSome) (κ ((xki b).getD false)) δ) (κ (false))) (κ (false))) (br (c==3) (br (b==[]) (br (a==0) (κ (true)) (κ (a==1))) (κ (false))) (κ (false)))))
def xmd (a b:Int) (c:List UInt8):=xqx a b c none some
def xBU:LA->Option (Bool×AV):=fnO (u1 (xPJ (u3 uI uI (sEq pStr)))) (fun ((a,b,c,_),_) _=>xqx a b c) (fun _ p=>AV.bool p) false
theorem xvi:OcOk P0 xPq 108 xBU:=fnC xG3.ok Tryz.func108 61 0 [] [] lk0
def xLz:EO:=xG3.w xvi
def xjU (a:Int):Int×Int:=(br (a==1) ((0,0)) (br (a==2) ((0,0)) (br (a==4) ((1,1)) (br (a==18) ((1,1)) (br (a==20) ((1,1)) (br (a==21) ((1,1)) (br (a==5) ((2,1099511627776)) (br (a==6) ((2,1099511627776)) (br (a==7) ((2,2)) (br (a==8) ((2,2)) (br (a==9) ((2,2)) (br (a==10) ((2,2)) (br (a==11) ((2,2)) (br (a==12) ((2,2)) (br (a==13) ((2,2)) (br (a==14) ((2,2)) (br (a==15) ((2,2)) (br (a==16) ((2,2)) (br (a==17) ((2,2)) (br (a==19) ((2,2)) (br (a==22) ((3,3)) (br (a==23) ((1,1099511627776)) (br (a==24) ((4,4)) (((-1),0)))))))))))))))))))))))))
def xBY {T:Type} (a:Int) (δ:T) (κ:Int×Int->T):T:=br (a==1) (κ (0,0)) (br (a==2) (κ (0,0)) (br (a==4) (κ (1,1)) (br (a==18) (κ (1,1)) (br (a==20) (κ (1,1)) (br (a==21) (κ (1,1)) (br (a==5) (κ (2,1099511627776)) (br (a==6) (κ (2,1099511627776)) (br (a==7) (κ (2,2)) (br (a==8) (κ (2,2)) (br (a==9) (κ (2,2)) (br (a==10) (κ (2,2)) (br (a==11) (κ (2,2)) (br (a==12) (κ (2,2)) (br (a==13) (κ (2,2)) (br (a==14) (κ (2,2)) (br (a==15) (κ (2,2)) (br (a==16) (κ (2,2)) (br (a==17) (κ (2,2)) (br (a==19) (κ (2,2)) (br (a==22) (κ (3,3)) (br (a==23) (κ (1,1099511627776)) (br (a==24) (κ (4,4)) (κ ((-1),0))))))))))))))))))))))))
def xLA:EO:=xLz.fT Tryz.func149 35 0 [7000000] [] lk0 (fun (a,_)=>xBY a none) (u1 uI) (fun (a,_)=>xjU a) (fun _ p=>(AV.tuple [AV.int .i64 p.1,AV.int .i64 p.2]))
def xpr {T:Type} (a f b c:Int) (d g:List UInt8) (e:LA) (δ:T) (κ:Bool->T):T:=br (decide ((xjU a).fst<0)) (κ (false)) (br (decide ((↑e.length:Int)<(xjU a).fst)) (κ (false)) (br (decide ((↑e.length:Int)>(xjU a).snd)) (κ (false)) (br (!g==[]) (κ (false)) (br (a==1) (br (f==0) (br ((xmd b c d).isSome) (κ ((xmd b c d).getD false)) δ) (κ (false))) (br (a==2) (κ (b==0&&(c==0&&(d==[]&&true)))) (br (a==24) (br (b==0&&(c==0&&(d==[]&&true))) (br (decide (f>=0)) (κ (decide (f<13))) (κ (false))) (κ (false))) (br (f==0) (κ (b==0&&(c==0&&(d==[]&&true)))) (κ (false)))))))))
def xoc (b g c d:Int) (e f:List UInt8) (a:LA):=xpr b g c d e f a none some
def xG4:EO:=xLA.f Tryz.func150 75 0 [] [] lk0 (u1 (xPJ (u7 uI uI uI uI (sEq pStr) (sEq pStr) (uL 7)))) (fun ((b,h,c,d,e,g,a,_),_) _=>xpr b h c d e g a) (fun _ p=>AV.bool p) false
def xlt {T:Type} (l:LA) (a i:Int) (δ:T) (κl:(Int)->T) (κr:(Bool×(Bool)×(Unit))->T):T:=br (decide (i<l.length)) (br (ixI l i) (br (ixS l i (Sh.int .i64) 0) (br ((gC l i 0).toInt != a) (br (ixI l i) (br (ixS l i (Sh.int .i64) 0) (br ((gC l i 0).toInt != 0) (κr (true,(false),())) (κl (i64.wrap (i+1)))) δ) δ) (κl (i64.wrap (i+1)))) δ) δ) (κr (false,false,()))
def xdb (l:LA) (a:Int):StT (Int) (Bool×(Bool)×(Unit)):=fun (i)=>xlt l a i none inL inR
def xth:=xG4.l 25 0 [] [] Tryz.f175 0 lk0 [0,1,5] [4] [] (q3 (qL 1) qI qI) xPt (fun (l,a,i,_) _=>(xdb l a,(i),fun p=>(.node p.1 (.leaf .ret [AV.bool p.2.1] []) (.leaf (.exit 0) [.top] [])))) (false,false,()) fun (l,a,_,_) _ (i)=>(((l,a,i,()),()),xlt l a i none)
def xtQ {T:Type} (l:LA) (a:Int) (δ:T) (κ:Bool->T):T:=br ((Iter (xdb l a) 0).isSome) (br (((Iter (xdb l a) 0).getD (false,false,())).fst) (κ (((Iter (xdb l a) 0).getD (false,false,())).snd.fst)) (κ (true))) δ
def xdh (l:LA) (a:Int):=xtQ l a none some
def xG5:EO:=xG4.f Tryz.func175 25 0 [] [(2,xth.lp)] (lk1 xth.ok) (u2 (uL 1) uI) (fun (l,a,_) _=>xtQ l a) (fun _ p=>AV.bool p) false
def xjb (l:LA) (i:Int):=ixI l i
def xjc (l:LA) (i:Int):=decide (i.toNat<l.length)&&xOI (Sh.int .i64) (gC l i 0)
def xh5 {T:Type} (l:LA) (i:Int) (δ:T) (κl:(Int×Int)->T):T:=br (xjb l i) (br (xjc l i) (κl ((gC l i 0).toInt,i64.wrap (i+1))) δ) δ
def xkl {T:Type} (l:LA) (k i:Int) (δ:T) (κl:(Int×Int)->T) (κr:(Bool×(Int×Bool×Int)×(Int))->T):T:=br (decide (i<l.length)) (br (xjb l i) (br (xjc l i) (br ((gC l i 0).toInt==0) (κl (k,i64.wrap (i+1))) (br (k != 0) (br (xjb l i) (br (xjc l i) (br (k != (gC l i 0).toInt) (κr (true,(0,false,k),0)) (xh5 l i δ κl)) δ) δ) (xh5 l i δ κl))) δ) δ) (κr (false,(0,false,0),(k)))
def xdV (l:LA):StT (Int×Int) (Bool×(Int×Bool×Int)×(Int)):=fun (k,i)=>xkl l k i none inL inR
def xsq:=xG5.l 32 0 [] [] Tryz.f176 0 lk0 [0,4,5] [2,3,4] [] (q3 (qL 1) qI qI) xPt (fun (l,k,i,_) _=>(xdV l,(k,i),fun p=>(.node p.1 (.leaf .ret [AV.int .i64 p.2.1.1,AV.bool p.2.1.2.1,AV.int .i64 p.2.1.2.2] []) (.leaf (.exit 0) [.top,.top,AV.int .i64 p.2.2] [])))) (false,(0,false,0),0) fun (l,_,_,_) _ (k,i)=>(((l,k,i,()),()),xkl l k i none)
def xq7 (l:LA):=(Iter (xdV l) (0,0)).getD (false,(0,false,0),0)
def xq6 (l:LA):=(xq7 l).snd
def xq5 (l:LA):=(xq6 l).fst
def xsr {T:Type} (l:LA) (δ:T) (κ:Int×Bool->T):T:=br ((Iter (xdV l) (0,0)).isSome) (br ((xq7 l).fst) (κ ((xq5 l).fst,(xq5 l).snd.fst)) (κ ((xq6 l).snd,true))) δ
def xef (l:LA):=xsr l none some
def xLB:EO:=xG5.f Tryz.func176 32 0 [] [(3,xsq.lp)] (lk1 xsq.ok) (u1 (uL 1)) (fun (l,_) _=>xsr l) (fun _ p=>AV.tuple [AV.int .i64 p.1,AV.bool p.2]) (0,false)
def xdJ {T:Type} (l:LA) (δ:T) (κ:Int×Bool->T):T:=br ((xef l).isSome) (κ (3,((xef l).getD (0,false)).snd)) δ
def xdK {T:Type} (l:LA) (δ:T) (κ:Int×Bool->T):T:=br ((xdh l 1).isSome) (κ (1,(xdh l 1).getD false)) δ
def xjd {T:Type} (l:LA) (δ:T) (κ:Int×Bool->T):T:=br ((xdh l 3).isSome) (κ (3,(xdh l 3).getD false)) δ
def xpE {T:Type} (a c d f:Int) (g h:List UInt8) (e l b:LA) (δ:T) (κ:Int×Bool->T):T:=br (a==1) (κ (d,true)) (br (a==2) (br (ixI b c) (br (ixS b c (Sh.int .i64) 0) (κ ((gC b c 0).toInt,true)) δ) δ) (br (a==4) (xjd l δ κ) (br (a==5) (xjd l δ κ) (br (a==6) (xjd l δ κ) (br (a==7) (xdJ l δ κ) (br (a==8) (xdJ l δ κ) (br (a==9) (xdJ l δ κ) (br (a==10) (xdJ l δ κ) (br (a==11) (xdJ l δ κ) (br (a==12) (xdJ l δ κ) (br (a==13) (xdK l δ κ) (br (a==14) (xdK l δ κ) (br (a==15) (xdK l δ κ) (br (a==16) (xdK l δ κ) (br (a==17) (xdK l δ κ) (br (a==18) (xdK l δ κ) (br (a==19) (br ((xdh l 2).isSome) (κ (2,(xdh l 2).getD false)) δ) (br (a==20) (br ((xdh l 2).isSome) (κ (1,(xdh l 2).getD false)) δ) (br (a==21) (κ (3,true)) (br (a==22) (br (decide (1<=(↑l.length:Int))) (br ((xef (List.take (l.length - 1) (List.drop 1 l))).isSome) (br (((xef (List.take (l.length - 1) (List.drop 1 l))).getD (0,false)).snd) (br (decide (1<=(↑l.length:Int))&&true) (br ((xdh (List.take 1 (List.drop 0 l)) 3).isSome) (κ (((xef (List.take (l.length - 1) (List.drop 1 l))).getD (0,false)).fst,(xdh (List.take 1 (List.drop 0 l)) 3).getD false)) δ) δ) (κ (((xef (List.take (l.length - 1) (List.drop 1 l))).getD (0,false)).fst,false))) δ) δ) (br (a==23) (br ((xef l).isSome) (κ (((xef l).getD (0,false)).fst,((xef l).getD (0,false)).snd)) δ) (br ((xdh l 1).isSome) (κ (3,(xdh l 1).getD false)) δ))))))))))))))))))))))
def xit (c h d e:Int) (f g:List UInt8) (a l b:LA):=xpE c h d e f g a l b none some
def xud:EO:=xLB.f Tryz.func151 87 0 [7000000] [] lk0 (u3 (xPJ (u7 uI uI uI uI (sEq pStr) (sEq pStr) (uL 7))) (uL 1) (uL 1)) (fun ((c,i,d,e,g,h,a,_),l,b,_) _=>xpE c i d e g h a l b) (fun _ p=>AV.tuple [AV.int .i64 p.1,AV.bool p.2]) (0,false)
def xeX (R:Int->Int->Int->Int->List UInt8->List UInt8->LA->Option (Int)):LA->Option (Bool×AV):=ocOf (xPs (xPJ (xPs (sEq (pInt .i64)) (xPs (sEq (pInt .i64)) (xPs (sEq (pInt .i64)) (xPs (sEq (pInt .i64)) (xPs (sEq pStr) (xPs (sEq pStr) (xPs (xPI 7 xPv) xPu)))))))) xPu) fun ((b,(i,(c,(d,(e,(f,(a,_))))))),_)=>((R b i c d e f a).isSome,AV.int .i64 ((R b i c d e f a).getD 0))
theorem xvw (k:Go.FuncId) (R:Nat->Int->Int->Int->Int->List UInt8->List UInt8->LA->Option (Int)) (g:∀ n,OcOk P0 xPq k (xeX (R n))):OcOk P0 xPq k (xeX (fun b i c d e f a=>limN fun n=>R n b i c d e f a)):=xDb g fun v h=>by
 obtain ⟨⟨b,⟨i,⟨c,⟨d,⟨e,⟨f,⟨a,_⟩⟩⟩⟩⟩⟩⟩,_⟩:=v;obtain ⟨n,j⟩:=xA3 (R:=fun n=>R n b i c d e f a) h
 exact ⟨n,congrArg (fun o=>(Option.isSome o,(AV.int .i64 (Option.getD o 0):AV))) j⟩
def xej (R:Int->Int->Int->Int->List UInt8->List UInt8->LA->Option (Int)):Prop:=OcOk P0 xPq 126 (xeX R)
def xgI (R:Int->Int->Int->Int->List UInt8->List UInt8->LA->Option (Int)):Env:=(xud.E.with 126 (xeX R)).fn 22 0 (lsOf []) (xO5 [])
abbrev xlZ (R:Int->Int->Int->Int->List UInt8->List UInt8->LA->Option (Int)):Prop:=xej R
theorem xwC (R:Int->Int->Int->Int->List UInt8->List UInt8->LA->Option (Int)) (a:xlZ R):xOK P0 (xPq.at 0) (xgI R):=(xud.ok.with a).fn
theorem xtS (R:Int->Int->Int->Int->List UInt8->List UInt8->LA->Option (Int)) (a:xlZ R):LoOk P0 (xPq.at (xgI R).pin) (xgI R) (xOO Tryz.f126 0):=xfx (by kernel_rfl)
def xl1 (R:Int->Int->Int->Int->List UInt8->List UInt8->LA->Option Int) (i:Int) (a:LA):=R (gC a i 0).toInt (gC a i 1).toInt (gC a i 2).toInt (gC a i 3).toInt (gC a i 4).toStr (gC a i 5).toStr (gC a i 6).toList
def xl0 (R:Int->Int->Int->Int->List UInt8->List UInt8->LA->Option Int) (i:Int) (a:LA):=(xl1 R i a).getD 0
def xgQ {T:Type} (R:Int->Int->Int->Int->List UInt8->List UInt8->LA->Option Int) (n i b c d e:Int) (f g:List UInt8) (a:LA) (δ:T) (κl:(Int×Int×Int×Int×Int×Int×List UInt8×List UInt8×LA)->T) (κr:(Int)->T):T:=br (decide (i<a.length)) (br (ixI a i) (br (ixT a i 7 [Sh.int .i64,Sh.int .i64,Sh.int .i64,Sh.int .i64,Sh.str,Sh.str,Sh.list 7] 0) (br ((xl1 R i a).isSome) (κl (if xl0 R i a>n then xl0 R i a else n,i64.wrap (i+1),b,c,d,e,f,g,a)) δ) δ) δ) (κr (n))
def xbG (R:Int->Int->Int->Int->List UInt8->List UInt8->LA->Option Int):StT (Int×Int×Int×Int×Int×Int×List UInt8×List UInt8×LA) (Int):=fun (n,i,a,b,c,d,e,f,g)=>xgQ R n i a b c d e f g none inL inR
def xcC (R:Int->Int->Int->Int->List UInt8->List UInt8->LA->Option Int):(Int×Int×Int×Int×Int×Int×List UInt8×List UInt8×LA)->LA×List Box:=fun (n,i,a,b,c,d,e,f,g)=>([AV.own 0 0 0 0,AV.int .i64 n,AV.int .i64 i],[⟨0,7,153,[AV.agg [AV.int .i64 a,AV.int .i64 b,AV.int .i64 c,AV.int .i64 d,AV.str e,AV.str f,AV.list 7 g]],false,true⟩])
def xdX (R:Int->Int->Int->Int->List UInt8->List UInt8->LA->Option Int):(Int)->LR:=fun p=>(.leaf (.exit 0) [AV.int .i64 p] [])
abbrev xsv (R:Int->Int->Int->Int->List UInt8->List UInt8->LA->Option Int) (a:LA) (H:List Box):=XR P0 (xgI R) [1,3,4] [3] [] (xOO Tryz.f126 0) a H
theorem xyI (R:Int->Int->Int->Int->List UInt8->List UInt8->LA->Option Int) (s:Int×Int×Int×Int×Int×Int×List UInt8×List UInt8×LA):Enc (encR (xcC R) (xdX R)) (xbG R s) (xsv R (xcC R s).1 (xcC R s).2):=by
 obtain ⟨n,i,a,b,c,d,e,f,g⟩:=s;have h:xsv R (xcC R (n,i,a,b,c,d,e,f,g)).1 (xcC R (n,i,a,b,c,d,e,f,g)).2=xgQ R n i a b c d e f g none (fun s=>some (encR (xcC R) (xdX R) (.inl s))) (fun p=>some (encR (xcC R) (xdX R) (.inr p))):=by kernel_rfl
 rw [h];unfold xbG xgQ;repeat' (first|refine Enc.br ?_ ?_|exact Enc.none|exact Enc.some rfl)
def xlx (R:Int->Int->Int->Int->List UInt8->List UInt8->LA->Option Int):Lp:=lpOf [1,3,4] [3] [] (xPr (xPF 0 0 0 0) (xPr (pInt .i64) (xPr (pInt .i64) xPt))) (xPr (xPH 0 7 153 false true (xPr (xPG (xPr (pInt .i64) (xPr (pInt .i64) (xPr (pInt .i64) (xPr (pInt .i64) (xPr pStr (xPr pStr (xPr (xPK 7 xPv) xPt)))))))) xPt)) xPt) fun (_,(n,(i,_))) (((a,(b,(c,(d,(e,(f,(g,_))))))),_),_)=>((Iter (xbG R) (n,i,a,b,c,d,e,f,g)).isSome,xdX R ((Iter (xbG R) (n,i,a,b,c,d,e,f,g)).getD 0))
theorem xv5 (R:Int->Int->Int->Int->List UInt8->List UInt8->LA->Option Int) (a:xlZ R):LoopOk P0 (xPq.at (xgI R).pin) (xgI R).nt (xOO Tryz.f126 0) (xlx R):=xC3 fun k l o m=>by
 obtain ⟨_,⟨n,⟨i,_⟩⟩⟩:=k;obtain ⟨⟨⟨b,⟨c,⟨d,⟨e,⟨f,⟨g,⟨h,_⟩⟩⟩⟩⟩⟩⟩,_⟩,_⟩:=l;obtain ⟨j,rfl⟩:=Prod.mk.inj m;exact xuJ xOT (xOU P0 _) rfl (xwC R a) (xtS R a) (xcC R) (xdX R) (fun p=>by simp only [xdX,LR.eval];first|(simp;done)|(repeat' split<;>simp)) (xyI R) (s:=(n,i,b,c,d,e,f,g,h)) (xaJ j)
def xeW (R:Int->Int->Int->Int->List UInt8->List UInt8->LA->Option (Int)):Env:=(xud.E.with 126 (xeX R)).fn 22 0 (lsOf []) (xO5 [(3,xlx R)])
theorem xwD (R:Int->Int->Int->Int->List UInt8->List UInt8->LA->Option (Int)) (a:xej R):xOK P0 (xPq.at 0) (xeW R):=(xud.ok.with a).fn
theorem xuV (R:Int->Int->Int->Int->List UInt8->List UInt8->LA->Option (Int)) (c:xej R):LoOk P0 (xPq.at (xeW R).pin) (xeW R) (Tryz.f126.body.getD .skip):=xsa (ls:=[xOO Tryz.f126 0]) (by kernel_rfl) (fun l b lp a=>by
 simp only [zC,List.not_mem_nil,or_false] at b;rcases b with rfl
 . rw [show (xeW R).lp (xOY (xOO Tryz.f126 0))=some (xlx R) by kernel_rfl] at a
   simp only [z6] at a;subst a;exact xv5 R c)
def xpD (R:Int->Int->Int->Int->List UInt8->List UInt8->LA->Option Int) (b i c d:Int) (e f:List UInt8) (a:LA):=Iter (xbG R) (0,0,b,i,c,d,e,f,a)
def xmp {T:Type} (R:Int->Int->Int->Int->List UInt8->List UInt8->LA->Option Int) (b i c d:Int) (e f:List UInt8) (a:LA) (δ:T) (κ:Int->T):T:=br ((xpD R b i c d e f a).isSome) (κ (i64.wrap ((xpD R b i c d e f a).getD 0+1))) δ
def xhU (R:Int->Int->Int->Int->List UInt8->List UInt8->LA->Option Int) (b i c d:Int) (e f:List UInt8) (a:LA):=xmp R b i c d e f a none some
theorem xB3 (R:Int->Int->Int->Int->List UInt8->List UInt8->LA->Option Int) (b i c d:Int) (e f:List UInt8) (a:LA):Enc (fun (p:Int)=>((AV.int .i64 p):AV)) (xhU R b i c d e f a) (XF P0 (xeW R) Tryz.f126 (Tryz.f126.body.getD .skip) [AV.agg [AV.int .i64 b,AV.int .i64 i,AV.int .i64 c,AV.int .i64 d,AV.str e,AV.str f,AV.list 7 a]]):=by
 have h:XF P0 (xeW R) Tryz.f126 (Tryz.f126.body.getD .skip) [AV.agg [AV.int .i64 b,AV.int .i64 i,AV.int .i64 c,AV.int .i64 d,AV.str e,AV.str f,AV.list 7 a]]=xmp R b i c d e f a none (fun (p:Int)=>some ((AV.int .i64 p):AV)):=by kernel_rfl
 rw [h];unfold xhU xmp;repeat' (first|refine Enc.br ?_ ?_|exact Enc.none|exact Enc.some rfl)
def xB2 (R:Int->Int->Int->Int->List UInt8->List UInt8->LA->Option Int):LA->Option (Bool×AV):=ocOf (xPs (xPJ (xPs (sEq (pInt .i64)) (xPs (sEq (pInt .i64)) (xPs (sEq (pInt .i64)) (xPs (sEq (pInt .i64)) (xPs (sEq pStr) (xPs (sEq pStr) (xPs (xPI 7 xPv) xPu)))))))) xPu) fun ((b,(i,(c,(d,(e,(f,(a,_))))))),_)=>((xhU R b i c d e f a).isSome,(AV.int .i64 ((xhU R b i c d e f a).getD 0)))
theorem xB1 (R:Int->Int->Int->Int->List UInt8->List UInt8->LA->Option Int) (a:xej R):OcOk P0 xPq 126 (xB2 R):=xgE fun e h f=>by
 obtain ⟨⟨j,⟨i,⟨k,⟨l,⟨m,⟨n,⟨g,_⟩⟩⟩⟩⟩⟩⟩,_⟩:=e;obtain ⟨b,c⟩:=Prod.mk.inj f;refine xi3 (p:=(xeW R).pin) (xlf xOT (xOU P0 _) rfl (xwD R a) Tryz.func126 rfl (by kernel_rfl) (xuV R a) ((xB3 R _ _ _ _ _ _ _ _ (xaJ (d:=0) b)).trans ?_))
 exact congrArg some c
def xdH:Nat->Int->Int->Int->Int->List UInt8->List UInt8->LA->Option (Int)
 | 0=>fun _ _ _ _ _ _ _=>none
 | fu_+1=>fun b i c d e f a=>xhU (xdH fu_) b i c d e f a
theorem xsu:∀ n,xej (xdH n)
 | 0=>xgE fun _ _ h=>absurd (Prod.mk.inj h).1 Bool.false_ne_true
 | fu_+1=>fun a r h=>xB1 (xdH fu_) (xsu fu_) a r h
def xjM:Int->Int->Int->Int->List UInt8->List UInt8->LA->Option (Int):=fun b i c d e f a=>limN fun n=>xdH n b i c d e f a
theorem xyH:xej xjM:=xvw 126 xdH xsu
def xyT:Env:=xud.E.with 126 (xeX xjM)
theorem xvB:xOK P0 xPq xyT:=xud.ok.with xyH
def xeV (R:Int->Int->Int->Int->List UInt8->List UInt8->LA->LA->Option (Int×Int)):LA->Option (Bool×AV):=ocOf (xPs (xPJ (xPs (sEq (pInt .i64)) (xPs (sEq (pInt .i64)) (xPs (sEq (pInt .i64)) (xPs (sEq (pInt .i64)) (xPs (sEq pStr) (xPs (sEq pStr) (xPs (xPI 7 xPv) xPu)))))))) (xPs (xPI 1 xPv) xPu)) fun ((b,(i,(c,(d,(e,(f,(a,_))))))),(g,_))=>((R b i c d e f a g).isSome,AV.tuple [AV.int .i64 (((R b i c d e f a g).getD (0,0))).1,AV.int .i64 (((R b i c d e f a g).getD (0,0))).2])
theorem xvv (k:Go.FuncId) (R:Nat->Int->Int->Int->Int->List UInt8->List UInt8->LA->LA->Option (Int×Int)) (j:∀ n,OcOk P0 xPq k (xeV (R n))):OcOk P0 xPq k (xeV (fun b i c d e f a g=>limN fun n=>R n b i c d e f a g)):=xDb j fun v h=>by
 obtain ⟨⟨b,⟨i,⟨c,⟨d,⟨e,⟨f,⟨a,_⟩⟩⟩⟩⟩⟩⟩,⟨g,_⟩⟩:=v;obtain ⟨n,l⟩:=xA3 (R:=fun n=>R n b i c d e f a g) h
 exact ⟨n,congrArg (fun o=>(Option.isSome o,(AV.tuple [AV.int .i64 ((Option.getD o (0,0))).1,AV.int .i64 ((Option.getD o (0,0))).2]:AV))) l⟩
def xei (R:Int->Int->Int->Int->List UInt8->List UInt8->LA->LA->Option (Int×Int)):Prop:=OcOk P0 xPq 127 (xeV R)
def xgH (R:Int->Int->Int->Int->List UInt8->List UInt8->LA->LA->Option (Int×Int)):Env:=(xyT.with 127 (xeV R)).fn 75 0 (lsOf []) (xO5 [])
abbrev xlU (R:Int->Int->Int->Int->List UInt8->List UInt8->LA->LA->Option (Int×Int)):Prop:=xei R
theorem xwA (R:Int->Int->Int->Int->List UInt8->List UInt8->LA->LA->Option (Int×Int)) (a:xlU R):xOK P0 (xPq.at 0) (xgH R):=(xvB.with a).fn
theorem xtR (R:Int->Int->Int->Int->List UInt8->List UInt8->LA->LA->Option (Int×Int)) (a:xlU R):LoOk P0 (xPq.at (xgH R).pin) (xgH R) (xOO Tryz.f127 0):=xfx (by kernel_rfl)
def xlY (R:Int->Int->Int->Int->List UInt8->List UInt8->LA->LA->Option (Int×Int)) (b:LA) (i:Int) (a:LA):Option (Int×Int):=R (gC a i 0).toInt (gC a i 1).toInt (gC a i 2).toInt (gC a i 3).toInt (gC a i 4).toStr (gC a i 5).toStr (gC a i 6).toList b
def xlX (R:Int->Int->Int->Int->List UInt8->List UInt8->LA->LA->Option (Int×Int)) (a:LA) (i:Int) (b:LA):Int×Int:=(xlY R a i b).getD (0,0)
def xlW (R:Int->Int->Int->Int->List UInt8->List UInt8->LA->LA->Option (Int×Int)) (a:LA) (i:Int) (b:LA):Int:=(xlX R a i b).snd
def xgP {T:Type} (R:Int->Int->Int->Int->List UInt8->List UInt8->LA->LA->Option (Int×Int)) (b:LA) (d:Nat) (i e f g h:Int) (j k:List UInt8) (a c:LA) (δ:T) (κl:(Nat×Int×Int×Int×Int×Int×List UInt8×List UInt8×LA×LA)->T) (κr:(Bool×(Int×Int×Nat×Int×Int×Int×Int×List UInt8×List UInt8×LA×LA)×(Nat×Int×Int×Int×Int×List UInt8×List UInt8×LA×LA))->T):T:=br (decide (i<a.length)) (br (ixI a i) (br (ixT a i 7 [Sh.int .i64,Sh.int .i64,Sh.int .i64,Sh.int .i64,Sh.str,Sh.str,Sh.list 7] 0) (br ((xlY R b i a).isSome) (br (xlW R b i a != 0) (κr (true,(0,xlW R b i a,d,e,f,g,h,j,k,a,c),(0,0,0,0,0,[],[],[],[]))) (br (rmB d c 1 8) (κl (d+1,i64.wrap (i+1),e,f,g,h,j,k,a,c++[AV.int .i64 (xlX R b i a).fst])) δ)) δ) δ) δ) (κr (false,(0,0,0,0,0,0,0,[],[],[],[]),(d,e,f,g,h,j,k,a,c)))
def xbF (R:Int->Int->Int->Int->List UInt8->List UInt8->LA->LA->Option (Int×Int)) (a:LA):StT (Nat×Int×Int×Int×Int×Int×List UInt8×List UInt8×LA×LA) (Bool×(Int×Int×Nat×Int×Int×Int×Int×List UInt8×List UInt8×LA×LA)×(Nat×Int×Int×Int×Int×List UInt8×List UInt8×LA×LA)):=fun (c,i,d,e,f,g,h,j,k,b)=>xgP R a c i d e f g h j k b none inL inR
def xcB (R:Int->Int->Int->Int->List UInt8->List UInt8->LA->LA->Option (Int×Int)) (a:LA):(Nat×Int×Int×Int×Int×Int×List UInt8×List UInt8×LA×LA)->LA×List Box:=fun (c,i,d,e,f,g,h,j,k,b)=>([AV.list 1 a,AV.own 0 0 0 0,AV.osl 1 0 0 c,AV.int .i64 i],[⟨0,7,153,[AV.agg [AV.int .i64 d,AV.int .i64 e,AV.int .i64 f,AV.int .i64 g,AV.str h,AV.str j,AV.list 7 k]],false,true⟩,⟨0,1,3,b,false,true⟩])
def xdW (R:Int->Int->Int->Int->List UInt8->List UInt8->LA->LA->Option (Int×Int)) (a:LA):(Bool×(Int×Int×Nat×Int×Int×Int×Int×List UInt8×List UInt8×LA×LA)×(Nat×Int×Int×Int×Int×List UInt8×List UInt8×LA×LA))->LR:=fun p=>(.node p.1 (.leaf .ret [AV.list 1 a,AV.own 0 0 0 0,AV.int .i64 p.2.1.1,AV.int .i64 p.2.1.2.1,AV.osl 1 0 0 p.2.1.2.2.1] [⟨0,7,153,[AV.agg [AV.int .i64 p.2.1.2.2.2.1,AV.int .i64 p.2.1.2.2.2.2.1,AV.int .i64 p.2.1.2.2.2.2.2.1,AV.int .i64 p.2.1.2.2.2.2.2.2.1,AV.str p.2.1.2.2.2.2.2.2.2.1,AV.str p.2.1.2.2.2.2.2.2.2.2.1,AV.list 7 p.2.1.2.2.2.2.2.2.2.2.2.1]],false,true⟩,⟨0,1,3,p.2.1.2.2.2.2.2.2.2.2.2.2,false,true⟩]) (.leaf (.exit 0) [AV.list 1 a,AV.own 0 0 0 0,.top,.top,AV.osl 1 0 0 p.2.2.1] [⟨0,7,153,[AV.agg [AV.int .i64 p.2.2.2.1,AV.int .i64 p.2.2.2.2.1,AV.int .i64 p.2.2.2.2.2.1,AV.int .i64 p.2.2.2.2.2.2.1,AV.str p.2.2.2.2.2.2.2.1,AV.str p.2.2.2.2.2.2.2.2.1,AV.list 7 p.2.2.2.2.2.2.2.2.2.1]],false,true⟩,⟨0,1,3,p.2.2.2.2.2.2.2.2.2.2,false,true⟩]))
abbrev xst (R:Int->Int->Int->Int->List UInt8->List UInt8->LA->LA->Option (Int×Int)) (a:LA) (H:List Box):=XR P0 (xgH R) [1,2,8,9] [1,2,4,5,8] [(8,1,3)] (xOO Tryz.f127 0) a H
theorem xyG (R:Int->Int->Int->Int->List UInt8->List UInt8->LA->LA->Option (Int×Int)) (a:LA) (s:Nat×Int×Int×Int×Int×Int×List UInt8×List UInt8×LA×LA):Enc (encR (xcB R a) (xdW R a)) (xbF R a s) (xst R (xcB R a s).1 (xcB R a s).2):=by
 obtain ⟨c,i,d,e,f,g,j,k,l,b⟩:=s;have h:xst R (xcB R a (c,i,d,e,f,g,j,k,l,b)).1 (xcB R a (c,i,d,e,f,g,j,k,l,b)).2=xgP R a c i d e f g j k l b none (fun s=>some (encR (xcB R a) (xdW R a) (.inl s))) (fun p=>some (encR (xcB R a) (xdW R a) (.inr p))):=by kernel_rfl
 rw [h];unfold xbF xgP;repeat' (first|refine Enc.br ?_ ?_|exact Enc.none|exact Enc.some rfl)
def xlV (R:Int->Int->Int->Int->List UInt8->List UInt8->LA->LA->Option (Int×Int)):Lp:=lpOf [1,2,8,9] [1,2,4,5,8] [(8,1,3)] (xPr (xPK 1 xPv) (xPr (xPF 0 0 0 0) (xPr (xPE 1 0 0) (xPr (pInt .i64) xPt)))) (xPr (xPH 0 7 153 false true (xPr (xPG (xPr (pInt .i64) (xPr (pInt .i64) (xPr (pInt .i64) (xPr (pInt .i64) (xPr pStr (xPr pStr (xPr (xPK 7 xPv) xPt)))))))) xPt)) (xPr (xPH 0 1 3 false true xPv) xPt)) fun (a,(_,(c,(i,_)))) (((d,(e,(f,(g,(h,(j,(k,_))))))),_),(b,_))=>((Iter (xbF R a) (c,i,d,e,f,g,h,j,k,b)).isSome,xdW R a ((Iter (xbF R a) (c,i,d,e,f,g,h,j,k,b)).getD (false,(0,0,0,0,0,0,0,[],[],[],[]),(0,0,0,0,0,[],[],[],[]))))
theorem xv4 (R:Int->Int->Int->Int->List UInt8->List UInt8->LA->LA->Option (Int×Int)) (c:xlU R):LoopOk P0 (xPq.at (xgH R).pin) (xgH R).nt (xOO Tryz.f127 0) (xlV R):=xC3 fun n o r q=>by
 obtain ⟨a,⟨_,⟨d,⟨i,_⟩⟩⟩⟩:=n;obtain ⟨⟨⟨e,⟨f,⟨g,⟨h,⟨j,⟨k,⟨l,_⟩⟩⟩⟩⟩⟩⟩,_⟩,⟨b,_⟩⟩:=o;obtain ⟨m,rfl⟩:=Prod.mk.inj q;exact xuJ xOT (xOU P0 _) rfl (xwA R c) (xtR R c) (xcB R a) (xdW R a) (fun p=>by simp only [xdW,LR.eval];first|(simp;done)|(repeat' split<;>simp)) (xyG R a) (s:=(d,i,e,f,g,h,j,k,l,b)) (xaJ m)
def xeU (R:Int->Int->Int->Int->List UInt8->List UInt8->LA->LA->Option (Int×Int)):Env:=(xyT.with 127 (xeV R)).fn 75 0 (lsOf []) (xO5 [(10,xlV R)])
theorem xwB (R:Int->Int->Int->Int->List UInt8->List UInt8->LA->LA->Option (Int×Int)) (a:xei R):xOK P0 (xPq.at 0) (xeU R):=(xvB.with a).fn
theorem xuU (R:Int->Int->Int->Int->List UInt8->List UInt8->LA->LA->Option (Int×Int)) (c:xei R):LoOk P0 (xPq.at (xeU R).pin) (xeU R) (Tryz.f127.body.getD .skip):=xsa (ls:=[xOO Tryz.f127 0]) (by kernel_rfl) (fun l b lp a=>by
 simp only [zC,List.not_mem_nil,or_false] at b;rcases b with rfl
 . rw [show (xeU R).lp (xOY (xOO Tryz.f127 0))=some (xlV R) by kernel_rfl] at a
   simp only [z6] at a;subst a;exact xv4 R c)
def xoi (R:Int->Int->Int->Int->List UInt8->List UInt8->LA->LA->Option (Int×Int)) (b i c d:Int) (e f:List UInt8) (a g:LA):Option
 (Bool ×
  (Int×Int×Nat×Int×Int×Int×Int×List UInt8×List UInt8×LA×LA) ×
   Nat×Int×Int×Int×Int×List UInt8×List UInt8×LA×LA):=Iter (xbF R g) (0,0,b,i,c,d,e,f,a,[])
def xoh (R:Int->Int->Int->Int->List UInt8->List UInt8->LA->LA->Option (Int×Int)) (b i c d:Int) (e f:List UInt8) (a g:LA):Bool ×
 (Int×Int×Nat×Int×Int×Int×Int×List UInt8×List UInt8×LA×LA) ×
  Nat×Int×Int×Int×Int×List UInt8×List UInt8×LA×LA:=(xoi R b i c d e f a g).getD (false,(0,0,0,0,0,0,0,[],[],[],[]),0,0,0,0,0,[],[],[],[])
def xog (R:Int->Int->Int->Int->List UInt8->List UInt8->LA->LA->Option (Int×Int)) (b i c d:Int) (e f:List UInt8) (a g:LA):(Int×Int×Nat×Int×Int×Int×Int×List UInt8×List UInt8×LA×LA) ×
 Nat×Int×Int×Int×Int×List UInt8×List UInt8×LA×LA:=(xoh R b i c d e f a g).snd
def xoe (R:Int->Int->Int->Int->List UInt8->List UInt8->LA->LA->Option (Int×Int)) (b i c d:Int) (e f:List UInt8) (a g:LA):Int×Int×Nat×Int×Int×Int×Int×List UInt8×List UInt8×LA×LA:=(xog R b i c d e f a g).fst
def xof (R:Int->Int->Int->Int->List UInt8->List UInt8->LA->LA->Option (Int×Int)) (b i c d:Int) (e f:List UInt8) (a g:LA):Nat×Int×Int×Int×Int×List UInt8×List UInt8×LA×LA:=(xog R b i c d e f a g).snd
def xpC (R:Int->Int->Int->Int->List UInt8->List UInt8->LA->LA->Option (Int×Int)) (b i c d:Int) (e f:List UInt8) (a g:LA):Int×Int×Int×Int×List UInt8×List UInt8×LA×LA:=(xof R b i c d e f a g).snd
def xod (R:Int->Int->Int->Int->List UInt8->List UInt8->LA->LA->Option (Int×Int)) (b i c d:Int) (e f:List UInt8) (a g:LA):Nat:=(xof R b i c d e f a g).fst
def xpB (R:Int->Int->Int->Int->List UInt8->List UInt8->LA->LA->Option (Int×Int)) (b i c d:Int) (e f:List UInt8) (a g:LA):Int×Int×Int×List UInt8×List UInt8×LA×LA:=(xpC R b i c d e f a g).snd
def xpA (R:Int->Int->Int->Int->List UInt8->List UInt8->LA->LA->Option (Int×Int)) (b i c d:Int) (e f:List UInt8) (a g:LA):Int×Int×List UInt8×List UInt8×LA×LA:=(xpB R b i c d e f a g).snd
def xpz (R:Int->Int->Int->Int->List UInt8->List UInt8->LA->LA->Option (Int×Int)) (b i c d:Int) (e f:List UInt8) (a g:LA):Int×List UInt8×List UInt8×LA×LA:=(xpA R b i c d e f a g).snd
def xpy (R:Int->Int->Int->Int->List UInt8->List UInt8->LA->LA->Option (Int×Int)) (b i c d:Int) (e f:List UInt8) (a g:LA):List UInt8×List UInt8×LA×LA:=(xpz R b i c d e f a g).snd
def xpw (R:Int->Int->Int->Int->List UInt8->List UInt8->LA->LA->Option (Int×Int)) (b i c d:Int) (e f:List UInt8) (a g:LA):List UInt8×LA×LA:=(xpy R b i c d e f a g).snd
def xpv (R:Int->Int->Int->Int->List UInt8->List UInt8->LA->LA->Option (Int×Int)) (b i c d:Int) (e f:List UInt8) (a g:LA):LA×LA:=(xpw R b i c d e f a g).snd
def xpu (R:Int->Int->Int->Int->List UInt8->List UInt8->LA->LA->Option (Int×Int)) (b i c d:Int) (e f:List UInt8) (a g:LA):LA:=(xpv R b i c d e f a g).snd
def xpt (R:Int->Int->Int->Int->List UInt8->List UInt8->LA->LA->Option (Int×Int)) (c i d e:Int) (f g:List UInt8) (a b:LA):Option (Int×Bool):=xit (xpC R c i d e f g a b).fst (xpB R c i d e f g a b).fst (xpA R c i d e f g a b).fst (xpz R c i d e f g a b).fst (xpy R c i d e f g a b).fst (xpw R c i d e f g a b).fst (xpv R c i d e f g a b).fst (List.take (xod R c i d e f g a b) (List.drop 0 (xpu R c i d e f g a b))) b
def xps (R:Int->Int->Int->Int->List UInt8->List UInt8->LA->LA->Option (Int×Int)) (b i c d:Int) (e f:List UInt8) (a g:LA):Int×Bool:=(xpt R b i c d e f a g).getD (0,false)
def xkm {T:Type} (R:Int->Int->Int->Int->List UInt8->List UInt8->LA->LA->Option (Int×Int)) (b i c d:Int) (e f:List UInt8) (a g:LA) (δ:T) (κ:Int×Int->T):T:=br ((xoi R b i c d e f a g).isSome) (br ((xoh R b i c d e f a g).fst) (κ ((xoe R b i c d e f a g).fst,(xoe R b i c d e f a g).snd.fst)) (br (decide (0+xod R b i c d e f a g<=(xpu R b i c d e f a g).length)&&true) (br ((xpt R b i c d e f a g).isSome) (br (!(xps R b i c d e f a g).snd) (κ (0,7)) (κ ((xps R b i c d e f a g).fst,0))) δ) δ)) δ
def xmo {T:Type} (R:Int->Int->Int->Int->List UInt8->List UInt8->LA->LA->Option (Int×Int)) (b i c d:Int) (e f:List UInt8) (a g:LA) (δ:T) (κ:Int×Int->T):T:=br (decide ((xjU b).fst<0)) (κ (0,7)) (br ((xoc b i c d e f a).isSome) (br (!(xoc b i c d e f a).getD false) (κ (0,8)) (br (b==2) (br (decide (i<0)) (κ (0,13)) (br (decide (i>=g.length)) (κ (0,13)) (xkm R b i c d e f a g δ κ))) (xkm R b i c d e f a g δ κ))) δ)
def xgA (R:Int->Int->Int->Int->List UInt8->List UInt8->LA->LA->Option (Int×Int)) (b i c d:Int) (e f:List UInt8) (a g:LA):=xmo R b i c d e f a g none some
theorem xB0 (R:Int->Int->Int->Int->List UInt8->List UInt8->LA->LA->Option (Int×Int)) (b i c d:Int) (e f:List UInt8) (a g:LA):Enc (fun (p:Int×Int)=>((AV.tuple [AV.int .i64 p.1,AV.int .i64 p.2]):AV)) (xgA R b i c d e f a g) (XF P0 (xeU R) Tryz.f127 (Tryz.f127.body.getD .skip) [AV.agg [AV.int .i64 b,AV.int .i64 i,AV.int .i64 c,AV.int .i64 d,AV.str e,AV.str f,AV.list 7 a],AV.list 1 g]):=by
 have h:XF P0 (xeU R) Tryz.f127 (Tryz.f127.body.getD .skip) [AV.agg [AV.int .i64 b,AV.int .i64 i,AV.int .i64 c,AV.int .i64 d,AV.str e,AV.str f,AV.list 7 a],AV.list 1 g]=xmo R b i c d e f a g none (fun (p:Int×Int)=>some ((AV.tuple [AV.int .i64 p.1,AV.int .i64 p.2]):AV)):=by kernel_rfl
 rw [h];unfold xgA xmo xkm;repeat' (first|refine Enc.br ?_ ?_|exact Enc.none|exact Enc.some rfl)
def xBx (R:Int->Int->Int->Int->List UInt8->List UInt8->LA->LA->Option (Int×Int)):LA->Option (Bool×AV):=ocOf (xPs (xPJ (xPs (sEq (pInt .i64)) (xPs (sEq (pInt .i64)) (xPs (sEq (pInt .i64)) (xPs (sEq (pInt .i64)) (xPs (sEq pStr) (xPs (sEq pStr) (xPs (xPI 7 xPv) xPu)))))))) (xPs (xPI 1 xPv) xPu)) fun ((b,(i,(c,(d,(e,(f,(a,_))))))),(g,_))=>((xgA R b i c d e f a g).isSome,(AV.tuple [AV.int .i64 ((xgA R b i c d e f a g).getD (0,0)).1,AV.int .i64 ((xgA R b i c d e f a g).getD (0,0)).2]))
theorem xBZ (R:Int->Int->Int->Int->List UInt8->List UInt8->LA->LA->Option (Int×Int)) (a:xei R):OcOk P0 xPq 127 (xBx R):=xgE fun e h f=>by
 obtain ⟨⟨j,⟨i,⟨k,⟨l,⟨m,⟨n,⟨g,_⟩⟩⟩⟩⟩⟩⟩,⟨o,_⟩⟩:=e;obtain ⟨b,c⟩:=Prod.mk.inj f;refine xi3 (p:=(xeU R).pin) (xlf xOT (xOU P0 _) rfl (xwB R a) Tryz.func127 rfl (by kernel_rfl) (xuU R a) ((xB0 R _ _ _ _ _ _ _ _ _ (xaJ (d:=(0,0)) b)).trans ?_))
 exact congrArg some c
def xdG:Nat->Int->Int->Int->Int->List UInt8->List UInt8->LA->LA->Option (Int×Int)
 | 0=>fun _ _ _ _ _ _ _ _=>none
 | fu_+1=>fun b i c d e f a g=>xgA (xdG fu_) b i c d e f a g
theorem xss:∀ n,xei (xdG n)
 | 0=>xgE fun _ _ h=>absurd (Prod.mk.inj h).1 Bool.false_ne_true
 | fu_+1=>fun a r h=>xBZ (xdG fu_) (xss fu_) a r h
def xhe:Int->Int->Int->Int->List UInt8->List UInt8->LA->LA->Option (Int×Int):=fun b i c d e f a g=>limN fun n=>xdG n b i c d e f a g
theorem xyF:xei xhe:=xvv 127 xdG xss
def xG6:Env:=xyT.with 127 (xeV xhe)
theorem xG8:xOK P0 xPq xG6:=xvB.with xyF
def xG7:EO:=EO.mk xG6 xG8
def xq4 {T:Type} (b h c d:Int) (e f:List UInt8) (a g:LA) (δ:T) (κ:Int×Int->T):T:=br ((xjM b h c d e f a).isSome) (br (decide ((xjM b h c d e f a).getD 0>24)) (κ (0,26)) (br ((xhe b h c d e f a g).isSome) (κ (((xhe b h c d e f a g).getD (0,0)).fst,((xhe b h c d e f a g).getD (0,0)).snd)) δ)) δ
def xtP (c h d e:Int) (f g:List UInt8) (a b:LA):=xq4 c h d e f g a b none some
def xKg:EO:=xG7.f Tryz.func107 14 0 [] [] lk0 (u2 (xPJ (u7 uI uI uI uI (sEq pStr) (sEq pStr) (uL 7))) (uL 1)) (fun ((c,i,d,e,g,h,a,_),b,_) _=>xq4 c i d e g h a b) (fun _ p=>AV.tuple [AV.int .i64 p.1,AV.int .i64 p.2]) (0,0)
def xEs:LA:=(([AV.str [(97:UInt8),(100:UInt8),(100:UInt8)],AV.str [(97:UInt8),(102:UInt8),(116:UInt8),(101:UInt8),(114:UInt8)],AV.str [(97:UInt8),(108:UInt8),(108:UInt8)],AV.str [(97:UInt8),(108:UInt8),(116:UInt8),(101:UInt8),(114:UInt8)],AV.str [(97:UInt8),(110:UInt8),(100:UInt8)],AV.str [(97:UInt8),(115:UInt8)],AV.str [(98:UInt8),(101:UInt8),(102:UInt8),(111:UInt8),(114:UInt8),(101:UInt8)],AV.str [(98:UInt8),(101:UInt8),(103:UInt8),(105:UInt8),(110:UInt8)],AV.str [(98:UInt8),(101:UInt8),(116:UInt8),(119:UInt8),(101:UInt8),(101:UInt8),(110:UInt8)],AV.str [(98:UInt8),(111:UInt8),(111:UInt8),(108:UInt8)],AV.str [(98:UInt8),(121:UInt8)],AV.str [(99:UInt8),(104:UInt8),(101:UInt8),(99:UInt8),(107:UInt8)],AV.str [(99:UInt8),(111:UInt8),(97:UInt8),(108:UInt8),(101:UInt8),(115:UInt8),(99:UInt8),(101:UInt8)],AV.str [(99:UInt8),(111:UInt8),(109:UInt8),(109:UInt8),(105:UInt8),(116:UInt8)],AV.str [(99:UInt8),(111:UInt8),(110:UInt8),(116:UInt8),(97:UInt8),(105:UInt8),(110:UInt8),(115:UInt8)],AV.str [(99:UInt8),(111:UInt8),(117:UInt8),(110:UInt8),(116:UInt8)],AV.str [(99:UInt8),(114:UInt8),(101:UInt8),(97:UInt8),(116:UInt8),(101:UInt8)],AV.str [(100:UInt8),(101:UInt8),(102:UInt8),(97:UInt8),(117:UInt8),(108:UInt8),(116:UInt8)],AV.str [(100:UInt8),(101:UInt8),(108:UInt8),(101:UInt8),(116:UInt8),(101:UInt8)],AV.str [(100:UInt8),(101:UInt8),(115:UInt8),(99:UInt8)],AV.str [(100:UInt8),(105:UInt8),(115:UInt8),(116:UInt8),(105:UInt8),(110:UInt8),(99:UInt8),(116:UInt8)],AV.str [(100:UInt8),(114:UInt8),(111:UInt8),(112:UInt8)],AV.str [(100:UInt8),(117:UInt8),(114:UInt8),(105:UInt8),(110:UInt8),(103:UInt8)],AV.str [(101:UInt8),(113:UInt8),(117:UInt8),(97:UInt8),(108:UInt8),(115:UInt8)],AV.str [(101:UInt8),(120:UInt8),(99:UInt8),(101:UInt8),(112:UInt8),(116:UInt8)],AV.str [(102:UInt8),(97:UInt8),(108:UInt8),(115:UInt8),(101:UInt8)],AV.str [(102:UInt8),(105:UInt8),(110:UInt8),(105:UInt8),(115:UInt8),(104:UInt8),(101:UInt8),(100:UInt8),(98:UInt8),(121:UInt8)],AV.str [(102:UInt8),(105:UInt8),(110:UInt8),(105:UInt8),(115:UInt8),(104:UInt8),(101:UInt8),(115:UInt8)],AV.str [(102:UInt8),(111:UInt8),(114:UInt8),(101:UInt8),(105:UInt8),(103:UInt8),(110:UInt8)],AV.str [(102:UInt8),(111:UInt8),(114:UInt8),(101:UInt8),(118:UInt8),(101:UInt8),(114:UInt8)],AV.str [(102:UInt8),(114:UInt8),(111:UInt8),(109:UInt8)],AV.str [(103:UInt8),(114:UInt8),(111:UInt8),(117:UInt8),(112:UInt8)],AV.str [(104:UInt8),(111:UInt8),(108:UInt8),(100:UInt8)],AV.str [(105:UInt8),(102:UInt8)],AV.str [(105:UInt8),(110:UInt8),(115:UInt8),(101:UInt8),(114:UInt8),(116:UInt8)],AV.str [(105:UInt8),(110:UInt8),(116:UInt8)],AV.str [(105:UInt8),(110:UInt8),(116:UInt8),(101:UInt8),(114:UInt8),(115:UInt8),(101:UInt8),(99:UInt8),(116:UInt8)],AV.str [(105:UInt8),(110:UInt8),(116:UInt8),(111:UInt8)],AV.str [(105:UInt8),(115:UInt8)],AV.str [(106:UInt8),(111:UInt8),(105:UInt8),(110:UInt8)],AV.str [(107:UInt8),(101:UInt8),(121:UInt8)],AV.str [(108:UInt8),(101:UInt8),(102:UInt8),(116:UInt8)],AV.str [(108:UInt8),(101:UInt8),(110:UInt8),(103:UInt8),(116:UInt8),(104:UInt8)],AV.str [(108:UInt8),(105:UInt8),(109:UInt8),(105:UInt8),(116:UInt8)],AV.str [(109:UInt8),(97:UInt8),(120:UInt8)],AV.str [(109:UInt8),(101:UInt8),(101:UInt8),(116:UInt8),(115:UInt8)],AV.str [(109:UInt8),(101:UInt8),(116:UInt8),(98:UInt8),(121:UInt8)],AV.str [(109:UInt8),(105:UInt8),(110:UInt8)],AV.str [(110:UInt8),(111:UInt8),(110:UInt8),(115:UInt8),(101:UInt8),(113:UInt8),(117:UInt8),(101:UInt8),(110:UInt8),(99:UInt8),(101:UInt8),(100:UInt8)],AV.str [(110:UInt8),(111:UInt8),(116:UInt8)],AV.str [(110:UInt8),(111:UInt8),(119:UInt8)],AV.str [(110:UInt8),(117:UInt8),(108:UInt8),(108:UInt8)],AV.str [(111:UInt8),(102:UInt8)],AV.str [(111:UInt8),(110:UInt8)],AV.str [(111:UInt8),(114:UInt8)],AV.str [(111:UInt8),(114:UInt8),(100:UInt8),(101:UInt8),(114:UInt8)],AV.str [(111:UInt8),(118:UInt8),(101:UInt8),(114:UInt8),(108:UInt8),(97:UInt8),(112:UInt8),(112:UInt8),(101:UInt8),(100:UInt8),(98:UInt8),(121:UInt8)],AV.str [(111:UInt8),(118:UInt8),(101:UInt8),(114:UInt8),(108:UInt8),(97:UInt8),(112:UInt8),(115:UInt8)],AV.str [(112:UInt8),(114:UInt8),(105:UInt8),(109:UInt8),(97:UInt8),(114:UInt8),(121:UInt8)],AV.str [(112:UInt8),(114:UInt8),(117:UInt8),(110:UInt8),(101:UInt8)],AV.str [(114:UInt8),(101:UInt8),(102:UInt8),(101:UInt8),(114:UInt8),(101:UInt8),(110:UInt8),(99:UInt8),(101:UInt8),(115:UInt8)],AV.str [(114:UInt8),(101:UInt8),(108:UInt8),(101:UInt8),(97:UInt8),(115:UInt8),(101:UInt8)],AV.str [(114:UInt8),(101:UInt8),(110:UInt8),(97:UInt8),(109:UInt8),(101:UInt8)],AV.str [(114:UInt8),(101:UInt8),(116:UInt8),(97:UInt8),(105:UInt8),(110:UInt8)],AV.str [(114:UInt8),(111:UInt8),(108:UInt8),(108:UInt8),(98:UInt8),(97:UInt8),(99:UInt8),(107:UInt8)],AV.str [(115:UInt8),(101:UInt8),(108:UInt8),(101:UInt8),(99:UInt8),(116:UInt8)],AV.str [(115:UInt8),(101:UInt8),(113:UInt8),(117:UInt8),(101:UInt8),(110:UInt8),(99:UInt8),(101:UInt8),(100:UInt8)],AV.str [(115:UInt8),(101:UInt8),(116:UInt8)],AV.str [(115:UInt8),(116:UInt8),(97:UInt8),(114:UInt8),(116:UInt8),(101:UInt8),(100:UInt8),(98:UInt8),(121:UInt8)],AV.str [(115:UInt8),(116:UInt8),(97:UInt8),(114:UInt8),(116:UInt8),(115:UInt8)],AV.str [(115:UInt8),(117:UInt8),(109:UInt8)],AV.str [(115:UInt8),(121:UInt8),(115:UInt8),(116:UInt8),(101:UInt8),(109:UInt8)],AV.str [(115:UInt8),(121:UInt8),(115:UInt8),(116:UInt8),(101:UInt8),(109:UInt8),(102:UInt8),(114:UInt8),(111:UInt8),(109:UInt8)],AV.str [(115:UInt8),(121:UInt8),(115:UInt8),(116:UInt8),(101:UInt8),(109:UInt8),(116:UInt8),(111:UInt8)],AV.str [(116:UInt8),(97:UInt8),(98:UInt8),(108:UInt8),(101:UInt8)],AV.str [(116:UInt8),(101:UInt8),(120:UInt8),(116:UInt8)],AV.str [(116:UInt8),(111:UInt8)],AV.str [(116:UInt8),(114:UInt8),(117:UInt8),(101:UInt8)],AV.str [(116:UInt8),(120:UInt8)],AV.str [(117:UInt8),(110:UInt8),(100:UInt8),(101:UInt8),(114:UInt8)],AV.str [(117:UInt8),(110:UInt8),(105:UInt8),(111:UInt8),(110:UInt8)],AV.str [(117:UInt8),(112:UInt8),(100:UInt8),(97:UInt8),(116:UInt8),(101:UInt8)],AV.str [(118:UInt8),(97:UInt8),(108:UInt8),(105:UInt8),(100:UInt8)],AV.str [(118:UInt8),(97:UInt8),(108:UInt8),(105:UInt8),(100:UInt8),(102:UInt8),(114:UInt8),(111:UInt8),(109:UInt8)],AV.str [(118:UInt8),(97:UInt8),(108:UInt8),(105:UInt8),(100:UInt8),(116:UInt8),(111:UInt8)],AV.str [(118:UInt8),(97:UInt8),(108:UInt8),(117:UInt8),(101:UInt8),(115:UInt8)],AV.str [(119:UInt8),(104:UInt8),(101:UInt8),(114:UInt8),(101:UInt8)]]))
def xB7 {T:Type} (δ:T) (κ:LA->T):T:=κ ([AV.str [(97:UInt8),(100:UInt8),(100:UInt8)],AV.str [(97:UInt8),(102:UInt8),(116:UInt8),(101:UInt8),(114:UInt8)],AV.str [(97:UInt8),(108:UInt8),(108:UInt8)],AV.str [(97:UInt8),(108:UInt8),(116:UInt8),(101:UInt8),(114:UInt8)],AV.str [(97:UInt8),(110:UInt8),(100:UInt8)],AV.str [(97:UInt8),(115:UInt8)],AV.str [(98:UInt8),(101:UInt8),(102:UInt8),(111:UInt8),(114:UInt8),(101:UInt8)],AV.str [(98:UInt8),(101:UInt8),(103:UInt8),(105:UInt8),(110:UInt8)],AV.str [(98:UInt8),(101:UInt8),(116:UInt8),(119:UInt8),(101:UInt8),(101:UInt8),(110:UInt8)],AV.str [(98:UInt8),(111:UInt8),(111:UInt8),(108:UInt8)],AV.str [(98:UInt8),(121:UInt8)],AV.str [(99:UInt8),(104:UInt8),(101:UInt8),(99:UInt8),(107:UInt8)],AV.str [(99:UInt8),(111:UInt8),(97:UInt8),(108:UInt8),(101:UInt8),(115:UInt8),(99:UInt8),(101:UInt8)],AV.str [(99:UInt8),(111:UInt8),(109:UInt8),(109:UInt8),(105:UInt8),(116:UInt8)],AV.str [(99:UInt8),(111:UInt8),(110:UInt8),(116:UInt8),(97:UInt8),(105:UInt8),(110:UInt8),(115:UInt8)],AV.str [(99:UInt8),(111:UInt8),(117:UInt8),(110:UInt8),(116:UInt8)],AV.str [(99:UInt8),(114:UInt8),(101:UInt8),(97:UInt8),(116:UInt8),(101:UInt8)],AV.str [(100:UInt8),(101:UInt8),(102:UInt8),(97:UInt8),(117:UInt8),(108:UInt8),(116:UInt8)],AV.str [(100:UInt8),(101:UInt8),(108:UInt8),(101:UInt8),(116:UInt8),(101:UInt8)],AV.str [(100:UInt8),(101:UInt8),(115:UInt8),(99:UInt8)],AV.str [(100:UInt8),(105:UInt8),(115:UInt8),(116:UInt8),(105:UInt8),(110:UInt8),(99:UInt8),(116:UInt8)],AV.str [(100:UInt8),(114:UInt8),(111:UInt8),(112:UInt8)],AV.str [(100:UInt8),(117:UInt8),(114:UInt8),(105:UInt8),(110:UInt8),(103:UInt8)],AV.str [(101:UInt8),(113:UInt8),(117:UInt8),(97:UInt8),(108:UInt8),(115:UInt8)],AV.str [(101:UInt8),(120:UInt8),(99:UInt8),(101:UInt8),(112:UInt8),(116:UInt8)],AV.str [(102:UInt8),(97:UInt8),(108:UInt8),(115:UInt8),(101:UInt8)],AV.str [(102:UInt8),(105:UInt8),(110:UInt8),(105:UInt8),(115:UInt8),(104:UInt8),(101:UInt8),(100:UInt8),(98:UInt8),(121:UInt8)],AV.str [(102:UInt8),(105:UInt8),(110:UInt8),(105:UInt8),(115:UInt8),(104:UInt8),(101:UInt8),(115:UInt8)],AV.str [(102:UInt8),(111:UInt8),(114:UInt8),(101:UInt8),(105:UInt8),(103:UInt8),(110:UInt8)],AV.str [(102:UInt8),(111:UInt8),(114:UInt8),(101:UInt8),(118:UInt8),(101:UInt8),(114:UInt8)],AV.str [(102:UInt8),(114:UInt8),(111:UInt8),(109:UInt8)],AV.str [(103:UInt8),(114:UInt8),(111:UInt8),(117:UInt8),(112:UInt8)],AV.str [(104:UInt8),(111:UInt8),(108:UInt8),(100:UInt8)],AV.str [(105:UInt8),(102:UInt8)],AV.str [(105:UInt8),(110:UInt8),(115:UInt8),(101:UInt8),(114:UInt8),(116:UInt8)],AV.str [(105:UInt8),(110:UInt8),(116:UInt8)],AV.str [(105:UInt8),(110:UInt8),(116:UInt8),(101:UInt8),(114:UInt8),(115:UInt8),(101:UInt8),(99:UInt8),(116:UInt8)],AV.str [(105:UInt8),(110:UInt8),(116:UInt8),(111:UInt8)],AV.str [(105:UInt8),(115:UInt8)],AV.str [(106:UInt8),(111:UInt8),(105:UInt8),(110:UInt8)],AV.str [(107:UInt8),(101:UInt8),(121:UInt8)],AV.str [(108:UInt8),(101:UInt8),(102:UInt8),(116:UInt8)],AV.str [(108:UInt8),(101:UInt8),(110:UInt8),(103:UInt8),(116:UInt8),(104:UInt8)],AV.str [(108:UInt8),(105:UInt8),(109:UInt8),(105:UInt8),(116:UInt8)],AV.str [(109:UInt8),(97:UInt8),(120:UInt8)],AV.str [(109:UInt8),(101:UInt8),(101:UInt8),(116:UInt8),(115:UInt8)],AV.str [(109:UInt8),(101:UInt8),(116:UInt8),(98:UInt8),(121:UInt8)],AV.str [(109:UInt8),(105:UInt8),(110:UInt8)],AV.str [(110:UInt8),(111:UInt8),(110:UInt8),(115:UInt8),(101:UInt8),(113:UInt8),(117:UInt8),(101:UInt8),(110:UInt8),(99:UInt8),(101:UInt8),(100:UInt8)],AV.str [(110:UInt8),(111:UInt8),(116:UInt8)],AV.str [(110:UInt8),(111:UInt8),(119:UInt8)],AV.str [(110:UInt8),(117:UInt8),(108:UInt8),(108:UInt8)],AV.str [(111:UInt8),(102:UInt8)],AV.str [(111:UInt8),(110:UInt8)],AV.str [(111:UInt8),(114:UInt8)],AV.str [(111:UInt8),(114:UInt8),(100:UInt8),(101:UInt8),(114:UInt8)],AV.str [(111:UInt8),(118:UInt8),(101:UInt8),(114:UInt8),(108:UInt8),(97:UInt8),(112:UInt8),(112:UInt8),(101:UInt8),(100:UInt8),(98:UInt8),(121:UInt8)],AV.str [(111:UInt8),(118:UInt8),(101:UInt8),(114:UInt8),(108:UInt8),(97:UInt8),(112:UInt8),(115:UInt8)],AV.str [(112:UInt8),(114:UInt8),(105:UInt8),(109:UInt8),(97:UInt8),(114:UInt8),(121:UInt8)],AV.str [(112:UInt8),(114:UInt8),(117:UInt8),(110:UInt8),(101:UInt8)],AV.str [(114:UInt8),(101:UInt8),(102:UInt8),(101:UInt8),(114:UInt8),(101:UInt8),(110:UInt8),(99:UInt8),(101:UInt8),(115:UInt8)],AV.str [(114:UInt8),(101:UInt8),(108:UInt8),(101:UInt8),(97:UInt8),(115:UInt8),(101:UInt8)],AV.str [(114:UInt8),(101:UInt8),(110:UInt8),(97:UInt8),(109:UInt8),(101:UInt8)],AV.str [(114:UInt8),(101:UInt8),(116:UInt8),(97:UInt8),(105:UInt8),(110:UInt8)],AV.str [(114:UInt8),(111:UInt8),(108:UInt8),(108:UInt8),(98:UInt8),(97:UInt8),(99:UInt8),(107:UInt8)],AV.str [(115:UInt8),(101:UInt8),(108:UInt8),(101:UInt8),(99:UInt8),(116:UInt8)],AV.str [(115:UInt8),(101:UInt8),(113:UInt8),(117:UInt8),(101:UInt8),(110:UInt8),(99:UInt8),(101:UInt8),(100:UInt8)],AV.str [(115:UInt8),(101:UInt8),(116:UInt8)],AV.str [(115:UInt8),(116:UInt8),(97:UInt8),(114:UInt8),(116:UInt8),(101:UInt8),(100:UInt8),(98:UInt8),(121:UInt8)],AV.str [(115:UInt8),(116:UInt8),(97:UInt8),(114:UInt8),(116:UInt8),(115:UInt8)],AV.str [(115:UInt8),(117:UInt8),(109:UInt8)],AV.str [(115:UInt8),(121:UInt8),(115:UInt8),(116:UInt8),(101:UInt8),(109:UInt8)],AV.str [(115:UInt8),(121:UInt8),(115:UInt8),(116:UInt8),(101:UInt8),(109:UInt8),(102:UInt8),(114:UInt8),(111:UInt8),(109:UInt8)],AV.str [(115:UInt8),(121:UInt8),(115:UInt8),(116:UInt8),(101:UInt8),(109:UInt8),(116:UInt8),(111:UInt8)],AV.str [(116:UInt8),(97:UInt8),(98:UInt8),(108:UInt8),(101:UInt8)],AV.str [(116:UInt8),(101:UInt8),(120:UInt8),(116:UInt8)],AV.str [(116:UInt8),(111:UInt8)],AV.str [(116:UInt8),(114:UInt8),(117:UInt8),(101:UInt8)],AV.str [(116:UInt8),(120:UInt8)],AV.str [(117:UInt8),(110:UInt8),(100:UInt8),(101:UInt8),(114:UInt8)],AV.str [(117:UInt8),(110:UInt8),(105:UInt8),(111:UInt8),(110:UInt8)],AV.str [(117:UInt8),(112:UInt8),(100:UInt8),(97:UInt8),(116:UInt8),(101:UInt8)],AV.str [(118:UInt8),(97:UInt8),(108:UInt8),(105:UInt8),(100:UInt8)],AV.str [(118:UInt8),(97:UInt8),(108:UInt8),(105:UInt8),(100:UInt8),(102:UInt8),(114:UInt8),(111:UInt8),(109:UInt8)],AV.str [(118:UInt8),(97:UInt8),(108:UInt8),(105:UInt8),(100:UInt8),(116:UInt8),(111:UInt8)],AV.str [(118:UInt8),(97:UInt8),(108:UInt8),(117:UInt8),(101:UInt8),(115:UInt8)],AV.str [(119:UInt8),(104:UInt8),(101:UInt8),(114:UInt8),(101:UInt8)]])
def xG9:EO:=xKg.fT Tryz.func103 2 0 [] [] lk0 (fun _=>xB7 none) xPu (fun _=>xEs) (fun _ p=>(AV.list 1 p))
def xmq {T:Type} (l:LA) (a:List UInt8) (i:Int) (δ:T) (κl:(Int)->T) (κr:(Bool×(Bool)×(Unit))->T):T:=br (decide (i<l.length)) (br (ixI l i) (br (decide (i.toNat<l.length)&&xOI Sh.str (gC l i 0)) (br ((gC l i 0).toStr==a) (κr (true,(true),())) (κl (i64.wrap (i+1)))) δ) δ) (κr (false,false,()))
def xdL (l:LA) (a:List UInt8):StT (Int) (Bool×(Bool)×(Unit)):=fun (i)=>xmq l a i none inL inR
def xul:=xG9.l 18 0 [] [] Tryz.f102 0 lk0 [0,1,5] [4] [] (q3 (qL 1) pStr qI) xPt (fun (l,a,i,_) _=>(xdL l a,(i),fun p=>(.node p.1 (.leaf .ret [AV.bool p.2.1] []) (.leaf (.exit 0) [.top] [])))) (false,false,()) fun (l,a,_,_) _ (i)=>(((l,a,i,()),()),xmq l a i none)
def xuW {T:Type} (l:LA) (a:List UInt8) (δ:T) (κ:Bool->T):T:=br ((Iter (xdL l a) 0).isSome) (br (((Iter (xdL l a) 0).getD (false,false,())).fst) (κ (((Iter (xdL l a) 0).getD (false,false,())).snd.fst)) (κ (false))) δ
def xyJ (l:LA) (a:List UInt8):=xuW l a none some
def xHa:EO:=xG9.f Tryz.func102 18 0 [] [(2,xul.lp)] (lk1 xul.ok) (u2 (uL 1) (sEq pStr)) (fun (l,a,_) _=>xuW l a) (fun _ p=>AV.bool p) false
def xh7 {T:Type} (a:List UInt8) (i:Int) (κl:(Int)->T) (κr:(Bool×(Bool)×(Unit))->T):T:=br (!(↑(a.getD i.toNat (0:UInt8)).toNat:Int)==95) (κr (true,(false),())) (κl (i64.wrap (i+1)))
def xh6 {T:Type} (a:List UInt8) (i:Int) (κl:(Int)->T) (κr:(Bool×(Bool)×(Unit))->T):T:=br (decide ((↑(a.getD i.toNat (0:UInt8)).toNat:Int)>=48)) (br (decide ((↑(a.getD i.toNat (0:UInt8)).toNat:Int)<=57)) (κl (i64.wrap (i+1))) (xh7 a i κl κr)) (xh7 a i κl κr)
def xko {T:Type} (a:List UInt8) (i:Int) (δ:T) (κl:(Int)->T) (κr:(Bool×(Bool)×(Unit))->T):T:=br (decide (i<a.length)) (br (decide (0<=i)&&decide (i<a.length)) (br (decide ((↑(a.getD i.toNat (0:UInt8)).toNat:Int)>=97)) (br (decide ((↑(a.getD i.toNat (0:UInt8)).toNat:Int)<=122)) (κl (i64.wrap (i+1))) (xh6 a i κl κr)) (xh6 a i κl κr)) δ) (κr (false,false,()))
def xcD (a:List UInt8):StT (Int) (Bool×(Bool)×(Unit)):=fun (i)=>xko a i none inL inR
def xsz:=xHa.l 54 0 [] [] Tryz.f76 0 lk0 [0,3] [0,2] [] (q2 pStr qI) xPt (fun (a,i,_) _=>(xcD a,(i),fun p=>(.node p.1 (.leaf .ret [AV.str a,AV.bool p.2.1] []) (.leaf (.exit 0) [AV.str a,.top] [])))) (false,false,()) fun (a,_,_) _ (i)=>(((a,i,()),()),xko a i none)
def xrc (a:List UInt8):=xyJ [AV.str [(97:UInt8),(100:UInt8),(100:UInt8)],AV.str [(97:UInt8),(102:UInt8),(116:UInt8),(101:UInt8),(114:UInt8)],AV.str [(97:UInt8),(108:UInt8),(108:UInt8)],AV.str [(97:UInt8),(108:UInt8),(116:UInt8),(101:UInt8),(114:UInt8)],AV.str [(97:UInt8),(110:UInt8),(100:UInt8)],AV.str [(97:UInt8),(115:UInt8)],AV.str [(98:UInt8),(101:UInt8),(102:UInt8),(111:UInt8),(114:UInt8),(101:UInt8)],AV.str [(98:UInt8),(101:UInt8),(103:UInt8),(105:UInt8),(110:UInt8)],AV.str [(98:UInt8),(101:UInt8),(116:UInt8),(119:UInt8),(101:UInt8),(101:UInt8),(110:UInt8)],AV.str [(98:UInt8),(111:UInt8),(111:UInt8),(108:UInt8)],AV.str [(98:UInt8),(121:UInt8)],AV.str [(99:UInt8),(104:UInt8),(101:UInt8),(99:UInt8),(107:UInt8)],AV.str [(99:UInt8),(111:UInt8),(97:UInt8),(108:UInt8),(101:UInt8),(115:UInt8),(99:UInt8),(101:UInt8)],AV.str [(99:UInt8),(111:UInt8),(109:UInt8),(109:UInt8),(105:UInt8),(116:UInt8)],AV.str [(99:UInt8),(111:UInt8),(110:UInt8),(116:UInt8),(97:UInt8),(105:UInt8),(110:UInt8),(115:UInt8)],AV.str [(99:UInt8),(111:UInt8),(117:UInt8),(110:UInt8),(116:UInt8)],AV.str [(99:UInt8),(114:UInt8),(101:UInt8),(97:UInt8),(116:UInt8),(101:UInt8)],AV.str [(100:UInt8),(101:UInt8),(102:UInt8),(97:UInt8),(117:UInt8),(108:UInt8),(116:UInt8)],AV.str [(100:UInt8),(101:UInt8),(108:UInt8),(101:UInt8),(116:UInt8),(101:UInt8)],AV.str [(100:UInt8),(101:UInt8),(115:UInt8),(99:UInt8)],AV.str [(100:UInt8),(105:UInt8),(115:UInt8),(116:UInt8),(105:UInt8),(110:UInt8),(99:UInt8),(116:UInt8)],AV.str [(100:UInt8),(114:UInt8),(111:UInt8),(112:UInt8)],AV.str [(100:UInt8),(117:UInt8),(114:UInt8),(105:UInt8),(110:UInt8),(103:UInt8)],AV.str [(101:UInt8),(113:UInt8),(117:UInt8),(97:UInt8),(108:UInt8),(115:UInt8)],AV.str [(101:UInt8),(120:UInt8),(99:UInt8),(101:UInt8),(112:UInt8),(116:UInt8)],AV.str [(102:UInt8),(97:UInt8),(108:UInt8),(115:UInt8),(101:UInt8)],AV.str [(102:UInt8),(105:UInt8),(110:UInt8),(105:UInt8),(115:UInt8),(104:UInt8),(101:UInt8),(100:UInt8),(98:UInt8),(121:UInt8)],AV.str [(102:UInt8),(105:UInt8),(110:UInt8),(105:UInt8),(115:UInt8),(104:UInt8),(101:UInt8),(115:UInt8)],AV.str [(102:UInt8),(111:UInt8),(114:UInt8),(101:UInt8),(105:UInt8),(103:UInt8),(110:UInt8)],AV.str [(102:UInt8),(111:UInt8),(114:UInt8),(101:UInt8),(118:UInt8),(101:UInt8),(114:UInt8)],AV.str [(102:UInt8),(114:UInt8),(111:UInt8),(109:UInt8)],AV.str [(103:UInt8),(114:UInt8),(111:UInt8),(117:UInt8),(112:UInt8)],AV.str [(104:UInt8),(111:UInt8),(108:UInt8),(100:UInt8)],AV.str [(105:UInt8),(102:UInt8)],AV.str [(105:UInt8),(110:UInt8),(115:UInt8),(101:UInt8),(114:UInt8),(116:UInt8)],AV.str [(105:UInt8),(110:UInt8),(116:UInt8)],AV.str [(105:UInt8),(110:UInt8),(116:UInt8),(101:UInt8),(114:UInt8),(115:UInt8),(101:UInt8),(99:UInt8),(116:UInt8)],AV.str [(105:UInt8),(110:UInt8),(116:UInt8),(111:UInt8)],AV.str [(105:UInt8),(115:UInt8)],AV.str [(106:UInt8),(111:UInt8),(105:UInt8),(110:UInt8)],AV.str [(107:UInt8),(101:UInt8),(121:UInt8)],AV.str [(108:UInt8),(101:UInt8),(102:UInt8),(116:UInt8)],AV.str [(108:UInt8),(101:UInt8),(110:UInt8),(103:UInt8),(116:UInt8),(104:UInt8)],AV.str [(108:UInt8),(105:UInt8),(109:UInt8),(105:UInt8),(116:UInt8)],AV.str [(109:UInt8),(97:UInt8),(120:UInt8)],AV.str [(109:UInt8),(101:UInt8),(101:UInt8),(116:UInt8),(115:UInt8)],AV.str [(109:UInt8),(101:UInt8),(116:UInt8),(98:UInt8),(121:UInt8)],AV.str [(109:UInt8),(105:UInt8),(110:UInt8)],AV.str [(110:UInt8),(111:UInt8),(110:UInt8),(115:UInt8),(101:UInt8),(113:UInt8),(117:UInt8),(101:UInt8),(110:UInt8),(99:UInt8),(101:UInt8),(100:UInt8)],AV.str [(110:UInt8),(111:UInt8),(116:UInt8)],AV.str [(110:UInt8),(111:UInt8),(119:UInt8)],AV.str [(110:UInt8),(117:UInt8),(108:UInt8),(108:UInt8)],AV.str [(111:UInt8),(102:UInt8)],AV.str [(111:UInt8),(110:UInt8)],AV.str [(111:UInt8),(114:UInt8)],AV.str [(111:UInt8),(114:UInt8),(100:UInt8),(101:UInt8),(114:UInt8)],AV.str [(111:UInt8),(118:UInt8),(101:UInt8),(114:UInt8),(108:UInt8),(97:UInt8),(112:UInt8),(112:UInt8),(101:UInt8),(100:UInt8),(98:UInt8),(121:UInt8)],AV.str [(111:UInt8),(118:UInt8),(101:UInt8),(114:UInt8),(108:UInt8),(97:UInt8),(112:UInt8),(115:UInt8)],AV.str [(112:UInt8),(114:UInt8),(105:UInt8),(109:UInt8),(97:UInt8),(114:UInt8),(121:UInt8)],AV.str [(112:UInt8),(114:UInt8),(117:UInt8),(110:UInt8),(101:UInt8)],AV.str [(114:UInt8),(101:UInt8),(102:UInt8),(101:UInt8),(114:UInt8),(101:UInt8),(110:UInt8),(99:UInt8),(101:UInt8),(115:UInt8)],AV.str [(114:UInt8),(101:UInt8),(108:UInt8),(101:UInt8),(97:UInt8),(115:UInt8),(101:UInt8)],AV.str [(114:UInt8),(101:UInt8),(110:UInt8),(97:UInt8),(109:UInt8),(101:UInt8)],AV.str [(114:UInt8),(101:UInt8),(116:UInt8),(97:UInt8),(105:UInt8),(110:UInt8)],AV.str [(114:UInt8),(111:UInt8),(108:UInt8),(108:UInt8),(98:UInt8),(97:UInt8),(99:UInt8),(107:UInt8)],AV.str [(115:UInt8),(101:UInt8),(108:UInt8),(101:UInt8),(99:UInt8),(116:UInt8)],AV.str [(115:UInt8),(101:UInt8),(113:UInt8),(117:UInt8),(101:UInt8),(110:UInt8),(99:UInt8),(101:UInt8),(100:UInt8)],AV.str [(115:UInt8),(101:UInt8),(116:UInt8)],AV.str [(115:UInt8),(116:UInt8),(97:UInt8),(114:UInt8),(116:UInt8),(101:UInt8),(100:UInt8),(98:UInt8),(121:UInt8)],AV.str [(115:UInt8),(116:UInt8),(97:UInt8),(114:UInt8),(116:UInt8),(115:UInt8)],AV.str [(115:UInt8),(117:UInt8),(109:UInt8)],AV.str [(115:UInt8),(121:UInt8),(115:UInt8),(116:UInt8),(101:UInt8),(109:UInt8)],AV.str [(115:UInt8),(121:UInt8),(115:UInt8),(116:UInt8),(101:UInt8),(109:UInt8),(102:UInt8),(114:UInt8),(111:UInt8),(109:UInt8)],AV.str [(115:UInt8),(121:UInt8),(115:UInt8),(116:UInt8),(101:UInt8),(109:UInt8),(116:UInt8),(111:UInt8)],AV.str [(116:UInt8),(97:UInt8),(98:UInt8),(108:UInt8),(101:UInt8)],AV.str [(116:UInt8),(101:UInt8),(120:UInt8),(116:UInt8)],AV.str [(116:UInt8),(111:UInt8)],AV.str [(116:UInt8),(114:UInt8),(117:UInt8),(101:UInt8)],AV.str [(116:UInt8),(120:UInt8)],AV.str [(117:UInt8),(110:UInt8),(100:UInt8),(101:UInt8),(114:UInt8)],AV.str [(117:UInt8),(110:UInt8),(105:UInt8),(111:UInt8),(110:UInt8)],AV.str [(117:UInt8),(112:UInt8),(100:UInt8),(97:UInt8),(116:UInt8),(101:UInt8)],AV.str [(118:UInt8),(97:UInt8),(108:UInt8),(105:UInt8),(100:UInt8)],AV.str [(118:UInt8),(97:UInt8),(108:UInt8),(105:UInt8),(100:UInt8),(102:UInt8),(114:UInt8),(111:UInt8),(109:UInt8)],AV.str [(118:UInt8),(97:UInt8),(108:UInt8),(105:UInt8),(100:UInt8),(116:UInt8),(111:UInt8)],AV.str [(118:UInt8),(97:UInt8),(108:UInt8),(117:UInt8),(101:UInt8),(115:UInt8)],AV.str [(119:UInt8),(104:UInt8),(101:UInt8),(114:UInt8),(101:UInt8)]] a
def xpJ {T:Type} (a:List UInt8) (δ:T) (κ:Bool->T):T:=br ((Iter (xcD a) 0).isSome) (br (((Iter (xcD a) 0).getD (false,false,())).fst) (κ (((Iter (xcD a) 0).getD (false,false,())).snd.fst)) (br ((xrc a).isSome) (κ (!(xrc a).getD false)) δ)) δ
def xsA {T:Type} (a:List UInt8) (δ:T) (κ:Bool->T):T:=br (a==[]) (κ (false)) (br (decide ((↑a.length:Int)>24)) (κ (false)) (br (decide (0<(↑a.length:Int))) (br (decide ((↑(a.getD 0 (0:UInt8)).toNat:Int)>=48)) (br (decide (0<(↑a.length:Int))) (br (decide ((↑(a.getD 0 (0:UInt8)).toNat:Int)<=57)) (κ (false)) (xpJ a δ κ)) δ) (xpJ a δ κ)) δ))
def xhw (a:List UInt8):=xsA a none some
def xCj:EO:=xHa.f Tryz.func76 54 0 [] [(4,xsz.lp)] (lk1 xsz.ok) (u1 (sEq pStr)) (fun (a,_) _=>xsA a) (fun _ p=>AV.bool p) false
def xje {T:Type} (b:Nat) (i:Int) (d:List UInt8) (c e f g a:LA) (δ:T) (κl:(Nat×Int×List UInt8×LA×LA×LA×LA×LA)->T) (κr:(Nat×LA)->T):T:=br (decide (i<c.length)) (br (ixI c i) (br (ixS c i (Sh.int .i64) 1) (br (rmB b a 1 8) (κl (b+1,i64.wrap (i+1),d,c,e,f,g,a++[AV.int .i64 (gC c i 1).toInt])) δ) δ) δ) (κr (b,a))
def xdz:StT (Nat×Int×List UInt8×LA×LA×LA×LA×LA) (Nat×LA):=fun (b,i,c,d,e,f,g,a)=>xje b i c d e f g a none inL inR
def xru:=xCj.l 23 0 [] [] Tryz.f51 0 lk0 [1,3,4] [3] [(3,1,3)] (q3 (xPF 0 0 0 0) (xPE 1 0 0) qI) (q2 (qB 0 5 27 (q1 (xPG (q5 pStr (qL 3) (qL 1) (qL 2) (qL 7))))) (qB 0 1 3 xPv)) (fun (_,b,i,_) (((c,d,e,f,g,_),_),a,_)=>(xdz,(b,i,c,d,e,f,g,a),fun p=>(.leaf (.exit 0) [AV.osl 0 0 0 p.1] [bF 0 1 3 p.2]))) (0,[]) fun _ _ (b,i,c,d,e,f,g,a)=>((((),b,i,()),(((c,d,e,f,g,()),()),a,())),xje b i c d e f g a none)
def xpI (e:List UInt8) (b a c d:LA):=Iter xdz (0,0,e,b,a,c,d,[])
def xpH (e:List UInt8) (b a c d:LA):=(xpI e b a c d).getD (0,[])
def xpF (e:List UInt8) (b a c d:LA):=(xpH e b a c d).snd
def xpG (e:List UInt8) (b a c d:LA):=(xpH e b a c d).fst
def xrb {T:Type} (e:List UInt8) (b a c d:LA) (δ:T) (κ:LA->T):T:=br ((xpI e b a c d).isSome) (br (decide (0+xpG e b a c d<=(xpF e b a c d).length)&&true) (κ (List.take (xpG e b a c d) (List.drop 0 (xpF e b a c d)))) δ) δ
def xhV (e:List UInt8) (b a c d:LA):=xrb e b a c d none some
def xB6:LA->Option (Bool×AV):=fnO (u1 (xPJ (u5 (sEq pStr) (uL 3) (uL 1) (uL 2) (uL 7)))) (fun ((e,b,a,c,d,_),_) _=>xrb e b a c d) (fun _ p=>AV.list 1 p) []
theorem xvj:OcOk P0 xPq 51 xB6:=fnC xCj.ok Tryz.func51 23 0 [] [(3,xru.lp)] (lk1 xru.ok)
def xHb:EO:=xCj.w xvj
def xkn {T:Type} (b:List UInt8) (i:Int) (c:List UInt8) (a d e f:LA) (δ:T) (κl:(Int×List UInt8×LA×LA×LA×LA)->T) (κr:(Bool×(Int)×(Unit))->T):T:=br (decide (i<a.length)) (br (ixI a i) (br (decide (i.toNat<a.length)&&xOI Sh.str (gC a i 0)) (br ((gC a i 0).toStr==b) (κr (true,(i),())) (κl (i64.wrap (i+1),c,a,d,e,f))) δ) δ) (κr (false,0,()))
def xdY (a:List UInt8):StT (Int×List UInt8×LA×LA×LA×LA) (Bool×(Int)×(Unit)):=fun (i,b,c,d,e,f)=>xkn a i b c d e f none inL inR
def xsw:=xHb.l 22 0 [] [] Tryz.f104 0 lk0 [1,2,5] [4] [] (q3 pStr (xPF 0 0 0 0) qI) (q1 (qB 0 5 27 (q1 (xPG (q5 pStr (qL 3) (qL 1) (qL 2) (qL 7)))))) (fun (a,_,i,_) (((b,c,d,e,f,_),_),_)=>(xdY a,(i,b,c,d,e,f),fun p=>(.node p.1 (.leaf .ret [AV.int .i64 p.2.1] []) (.leaf (.exit 0) [.top] [])))) (false,0,()) fun (a,_,_,_) _ (i,b,c,d,e,f)=>(((a,(),i,()),(((b,c,d,e,f,()),()),())),xkn a i b c d e f none)
def xra (e:List UInt8) (b a c d:LA) (f:List UInt8):=Iter (xdY f) (0,e,b,a,c,d)
def xq9 (e:List UInt8) (b a c d:LA) (f:List UInt8):=(xra e b a c d f).getD (false,0,())
def xsy {T:Type} (e:List UInt8) (b a c d:LA) (f:List UInt8) (δ:T) (κ:Int->T):T:=br ((xra e b a c d f).isSome) (br ((xq9 e b a c d f).fst) (κ ((xq9 e b a c d f).snd.fst)) (κ ((-1)))) δ
def xrP (e:List UInt8) (b a c d:LA) (f:List UInt8):=xsy e b a c d f none some
def xLC:EO:=xHb.f Tryz.func104 22 0 [] [(2,xsw.lp)] (lk1 xsw.ok) (u2 (xPJ (u5 (sEq pStr) (uL 3) (uL 1) (uL 2) (uL 7))) (sEq pStr)) (fun ((e,b,a,c,d,_),g,_) _=>xsy e b a c d g) (fun _ p=>AV.int .i64 p) 0
def xkV (e:List UInt8) (a b c d:LA) (i:Int):Bool:=(br (decide (i>=0)) ((decide (i<a.length))) ((false)))
def xAp {T:Type} (e:List UInt8) (a b c d:LA) (i:Int) (δ:T) (κ:Bool->T):T:=br (decide (i>=0)) (κ (decide (i<a.length))) (κ (false))
def xHc:EO:=xLC.fT Tryz.func105 14 0 [] [] lk0 (fun ((e,b,a,c,d,_),i,_)=>xAp e b a c d i none) (u2 (xPJ (u5 (sEq pStr) (uL 3) (uL 1) (uL 2) (uL 7))) uI) (fun ((e,b,a,c,d,_),i,_)=>xkV e b a c d i) (fun _ p=>(AV.bool p))
def xhy {T:Type} (i:Int) (b:List UInt8) (a c d e:LA) (δ:T) (κl:(Int×List UInt8×LA×LA×LA×LA)->T) (κr:(Bool×(Int)×(Unit))->T):T:=br (decide (i<a.length)) (br (ixI a i) (br (ixT a i 3 [Sh.str,Sh.int .i64,Sh.bool] 0) (br ((xhw (gC a i 0).toStr).isSome) (br (!(xhw (gC a i 0).toStr).getD false) (κr (true,(1),())) (br (decide ((gC a i 1).toInt<1)) (κr (true,(7),())) (br (decide ((gC a i 1).toInt>3)) (κr (true,(7),())) (br ((xrP b a c d e (gC a i 0).toStr).isSome) (br (decide ((xrP b a c d e (gC a i 0).toStr).getD 0<i)) (κr (true,(10),())) (κl (i64.wrap (i+1),b,a,c,d,e))) δ)))) δ) δ) δ) (κr (false,0,()))
def xcl:StT (Int×List UInt8×LA×LA×LA×LA) (Bool×(Int)×(Unit)):=fun (i,a,b,c,d,e)=>xhy i a b c d e none inL inR
def xoW:=xHc.l 45 0 [] [] Tryz.f77 0 lk0 [1,3] [2] [] (q2 (xPF 0 0 0 0) qI) (q1 (qB 0 5 27 (q1 (xPG (q5 pStr (qL 3) (qL 1) (qL 2) (qL 7)))))) (fun (_,i,_) (((a,b,c,d,e,_),_),_)=>(xcl,(i,a,b,c,d,e),fun p=>(.node p.1 (.leaf .ret [AV.int .i64 p.2.1] []) (.leaf (.exit 0) [.top] [])))) (false,0,()) fun _ _ (i,a,b,c,d,e)=>((((),i,()),(((a,b,c,d,e,()),()),())),xhy i a b c d e none)
def xmV (e:List UInt8) (b a c d:LA):=Iter xcl (0,e,b,a,c,d)
def xmU (e:List UInt8) (b a c d:LA):=(xmV e b a c d).getD (false,0,())
def xoj {T:Type} (e:List UInt8) (a b c d:LA) (δ:T) (κ:Int->T):T:=br (decide ((↑a.length:Int)<1)) (κ (13)) (br (decide ((↑a.length:Int)>12)) (κ (13)) (br ((xmV e a b c d).isSome) (br ((xmU e a b c d).fst) (κ ((xmU e a b c d).snd.fst)) (κ (0))) δ))
def xhf (e:List UInt8) (b a c d:LA):=xoj e b a c d none some
def xHd:EO:=xHc.f Tryz.func77 45 0 [] [(4,xoW.lp)] (lk1 xoW.ok) (u1 (xPJ (u5 (sEq pStr) (uL 3) (uL 1) (uL 2) (uL 7)))) (fun ((e,b,a,c,d,_),_) _=>xoj e b a c d) (fun _ p=>AV.int .i64 p) 0
def xfG (i:Int) (a:LA):=ixI a i
def xfH (i:Int) (a:LA):=decide (i.toNat<a.length)&&xOI (Sh.int .i64) (gC a i 0)
def xbP (i:Int) (a:LA):=(gC a i 0).toInt
def xeY {T:Type} (i:Int) (c:List UInt8) (b a d e:LA) (δ:T) (κl:(Int×List UInt8×LA×LA×LA×LA)->T) (κr:(Bool×(Int)×(Unit))->T):T:=br (xfG i a) (br (xfH i a) (br (decide (0<=xbP i a)&&decide (xbP i a<b.length)) (br (decide ((xbP i a).toNat<b.length)&&xOI Sh.bool ((b.getD (xbP i a).toNat .top).cells.getD 2 .top)) (br (((b.getD (xbP i a).toNat .top).cells.getD 2 .top).toBool) (κr (true,(12),())) (κl (i64.wrap (i+1),c,b,a,d,e))) δ) δ) δ) δ
def xgJ {T:Type} (i:Int) (b:List UInt8) (c a d e:LA) (δ:T) (κl:(Int×List UInt8×LA×LA×LA×LA)->T) (κr:(Bool×(Int)×(Unit))->T):T:=br (decide (i<a.length)) (br (xfG i a) (br (xfH i a) (br (!xkV b c a d e (xbP i a)) (κr (true,(25),())) (br (decide (i>0)) (br (xfG i a) (br (xfH i a) (br (decide (0<=i64.wrap (i - 1))&&decide (i64.wrap (i - 1)<(↑a.length:Int))) (br (decide ((i64.wrap (i - 1)).toNat<a.length)&&xOI (Sh.int .i64) ((a.getD (i64.wrap (i - 1)).toNat .top).cells.getD 0 .top)) (br (decide (xbP i a<=((a.getD (i64.wrap (i - 1)).toNat .top).cells.getD 0 .top).toInt)) (κr (true,(25),())) (xeY i b c a d e δ κl κr)) δ) δ) δ) δ) (xeY i b c a d e δ κl κr))) δ) δ) (κr (false,0,()))
def xb8:StT (Int×List UInt8×LA×LA×LA×LA) (Bool×(Int)×(Unit)):=fun (i,a,b,c,d,e)=>xgJ i a b c d e none inL inR
def xti:=xHd.l 51 0 [] [] Tryz.f78 0 lk0 [1,3] [2] [] (q2 (xPF 0 0 0 0) qI) (q1 (qB 0 5 27 (q1 (xPG (q5 pStr (qL 3) (qL 1) (qL 2) (qL 7)))))) (fun (_,i,_) (((a,b,c,d,e,_),_),_)=>(xb8,(i,a,b,c,d,e),fun p=>(.node p.1 (.leaf .ret [AV.int .i64 p.2.1] []) (.leaf (.exit 0) [.top] [])))) (false,0,()) fun _ _ (i,a,b,c,d,e)=>((((),i,()),(((a,b,c,d,e,()),()),())),xgJ i a b c d e none)
def xsC (e:List UInt8) (b a c d:LA):=Iter xb8 (0,e,b,a,c,d)
def xsB (e:List UInt8) (b a c d:LA):=(xsC e b a c d).getD (false,0,())
def xtT {T:Type} (e:List UInt8) (b a c d:LA) (δ:T) (κ:Int->T):T:=br ((↑a.length:Int)==0) (κ (25)) (br ((xsC e b a c d).isSome) (br ((xsB e b a c d).fst) (κ ((xsB e b a c d).snd.fst)) (κ (0))) δ)
def xqA (e:List UInt8) (b a c d:LA):=xtT e b a c d none some
def xCk:EO:=xHd.f Tryz.func78 51 0 [] [(4,xti.lp)] (lk1 xti.ok) (u1 (xPJ (u5 (sEq pStr) (uL 3) (uL 1) (uL 2) (uL 7)))) (fun ((e,b,a,c,d,_),_) _=>xtT e b a c d) (fun _ p=>AV.int .i64 p) 0
def xhz {T:Type} (i k:Int) (b:List UInt8) (c d e f a:LA) (g:List UInt8) (δ:T) (κl:(Int×List UInt8×LA×LA×LA×LA×LA×List UInt8)->T) (κr:(Bool×(Int×List UInt8×LA×LA×LA×LA×LA×List UInt8)×(List UInt8×LA×LA×LA×LA×LA×List UInt8))->T):T:=br (decide (k<i)) (br (ixI a k) (br (ixS a k (Sh.int .i64) 0) (br (ixI a i) (br (ixS a i (Sh.int .i64) 0) (br ((gC a k 0).toInt==(gC a i 0).toInt) (κr (true,(25,b,c,d,e,f,a,g),([],[],[],[],[],[],[]))) (κl (i64.wrap (k+1),b,c,d,e,f,a,g))) δ) δ) δ) δ) (κr (false,(0,[],[],[],[],[],[],[]),(b,c,d,e,f,a,g)))
def xcm (i:Int):StT (Int×List UInt8×LA×LA×LA×LA×LA×List UInt8) (Bool×(Int×List UInt8×LA×LA×LA×LA×LA×List UInt8)×(List UInt8×LA×LA×LA×LA×LA×List UInt8)):=fun (k,a,b,c,d,e,f,g)=>xhz i k a b c d e f g none inL inR
def xgZ:=xCk.l 46 0 [] [] Tryz.f106 1 lk0 [2,3,5,6] [2,3,4,5] [] (q4 (xPF 0 0 0 0) (xPF 1 0 0 0) qI qI) (q2 (qB 0 5 27 (q1 (xPG (q5 pStr (qL 3) (qL 1) (qL 2) (qL 7))))) (qB 0 2 149 (q1 (xPG (q2 (qL 1) pStr))))) (fun (_,_,i,k,_) (((a,b,c,d,e,_),_),((f,g,_),_),_)=>(xcm i,(k,a,b,c,d,e,f,g),fun p=>(.node p.1 (.leaf .ret [AV.own 0 0 0 0,AV.own 1 0 0 0,AV.int .i64 p.2.1.1,AV.int .i64 i] [bF 0 5 27 [AV.agg [AV.str p.2.1.2.1,AV.list 3 p.2.1.2.2.1,AV.list 1 p.2.1.2.2.2.1,AV.list 2 p.2.1.2.2.2.2.1,AV.list 7 p.2.1.2.2.2.2.2.1]],bF 0 2 149 [AV.agg [AV.list 1 p.2.1.2.2.2.2.2.2.1,AV.str p.2.1.2.2.2.2.2.2.2]]]) (.leaf (.exit 2) [AV.own 0 0 0 0,AV.own 1 0 0 0,.top,AV.int .i64 i] [bF 0 5 27 [AV.agg [AV.str p.2.2.1,AV.list 3 p.2.2.2.1,AV.list 1 p.2.2.2.2.1,AV.list 2 p.2.2.2.2.2.1,AV.list 7 p.2.2.2.2.2.2.1]],bF 0 2 149 [AV.agg [AV.list 1 p.2.2.2.2.2.2.2.1,AV.str p.2.2.2.2.2.2.2.2]]])))) (false,(0,[],[],[],[],[],[],[]),([],[],[],[],[],[],[])) fun (_,_,i,_,_) _ (k,a,b,c,d,e,f,g)=>((((),(),i,k,()),(((a,b,c,d,e,()),()),((f,g,()),()),())),xhz i k a b c d e f g none)
def xj9 (i:Int) (a:List UInt8) (b c d e f:LA) (g:List UInt8):=Iter (xcm i) (0,a,b,c,d,e,f,g)
def xj8 (i:Int) (a:List UInt8) (b c d e f:LA) (g:List UInt8):=(xj9 i a b c d e f g).getD (false,(0,[],[],[],[],[],[],[]),[],[],[],[],[],[],[])
def xj7 (i:Int) (a:List UInt8) (b c d e f:LA) (g:List UInt8):=(xj8 i a b c d e f g).snd
def xj6 (i:Int) (a:List UInt8) (b c d e f:LA) (g:List UInt8):=(xj7 i a b c d e f g).snd
def xj5 (i:Int) (a:List UInt8) (b c d e f:LA) (g:List UInt8):=(xj6 i a b c d e f g).snd
def xj4 (i:Int) (a:List UInt8) (b c d e f:LA) (g:List UInt8):=(xj5 i a b c d e f g).snd
def xj3 (i:Int) (a:List UInt8) (b c d e f:LA) (g:List UInt8):=(xj4 i a b c d e f g).snd
def xj2 (i:Int) (a:List UInt8) (b c d e f:LA) (g:List UInt8):=(xj3 i a b c d e f g).snd
def xj1 (i:Int) (a:List UInt8) (b c d e f:LA) (g:List UInt8):=(xj2 i a b c d e f g).snd
def xft {T:Type} (i:Int) (b:List UInt8) (c d e f a:LA) (g:List UInt8) (δ:T) (κl:(Int×List UInt8×LA×LA×LA×LA×LA×List UInt8)->T) (κr:(Bool×(Int)×(Unit))->T):T:=br (decide (i<a.length)) (br (ixI a i) (br (ixS a i (Sh.int .i64) 0) (br (!xkV b c d e f (gC a i 0).toInt) (κr (true,(25),())) (br ((xj9 i b c d e f a g).isSome) (br ((xj8 i b c d e f a g).fst) (κr (true,((xj7 i b c d e f a g).fst.fst),())) (κl (i64.wrap (i+1),(xj6 i b c d e f a g).fst,(xj5 i b c d e f a g).fst,(xj4 i b c d e f a g).fst,(xj3 i b c d e f a g).fst,(xj2 i b c d e f a g).fst,(xj1 i b c d e f a g).fst,(xj1 i b c d e f a g).snd))) δ)) δ) δ) (κr (false,0,()))
def xbJ:StT (Int×List UInt8×LA×LA×LA×LA×LA×List UInt8) (Bool×(Int)×(Unit)):=fun (i,a,b,c,d,e,f,g)=>xft i a b c d e f g none inL inR
def xoX:=xCk.l 46 0 [] [(11,xgZ.lp)] Tryz.f106 0 (lk1 xgZ.ok) [2,3,5] [4] [] (q3 (xPF 0 0 0 0) (xPF 1 0 0 0) qI) (q2 (qB 0 5 27 (q1 (xPG (q5 pStr (qL 3) (qL 1) (qL 2) (qL 7))))) (qB 0 2 149 (q1 (xPG (q2 (qL 1) pStr))))) (fun (_,_,i,_) (((a,b,c,d,e,_),_),((f,g,_),_),_)=>(xbJ,(i,a,b,c,d,e,f,g),fun p=>(.node p.1 (.leaf .ret [AV.int .i64 p.2.1] []) (.leaf (.exit 0) [.top] [])))) (false,0,()) fun _ _ (i,a,b,c,d,e,f,g)=>((((),(),i,()),(((a,b,c,d,e,()),()),((f,g,()),()),())),xft i a b c d e f g none)
def xmX (e:List UInt8) (b a c d f:LA) (g:List UInt8):=Iter xbJ (0,e,b,a,c,d,f,g)
def xmW (e:List UInt8) (b a c d f:LA) (g:List UInt8):=(xmX e b a c d f g).getD (false,0,())
def xok {T:Type} (g:List UInt8) (c a d e f:LA) (b:List UInt8) (δ:T) (κ:Int->T):T:=br ((xhw b).isSome) (br (!(xhw b).getD false) (κ (1)) (br ((↑f.length:Int)==0) (κ (25)) (br ((xmX g c a d e f b).isSome) (br ((xmW g c a d e f b).fst) (κ ((xmW g c a d e f b).snd.fst)) (κ (0))) δ))) δ
def xjN (e:List UInt8) (b a c d f:LA) (g:List UInt8):=xok e b a c d f g none some
def xCl:EO:=xCk.f Tryz.func106 46 0 [] [(11,xgZ.lp),(6,xoX.lp)] (lks (lkC xoX.ok (lkC xgZ.ok lkN))) (u2 (xPJ (u5 (sEq pStr) (uL 3) (uL 1) (uL 2) (uL 7))) (xPJ (u2 (uL 1) (sEq pStr)))) (fun ((e,b,a,c,d,_),(g,h,_),_) _=>xok e b a c d g h) (fun _ p=>AV.int .i64 p) 0
def xe7 {T:Type} (i:Int) (b:List UInt8) (c d a e:LA) (δ:T) (κl:(Int×List UInt8×LA×LA×LA×LA)->T) (κr:(Bool×(Int×List UInt8×LA×LA×LA×LA)×(List UInt8×LA×LA×LA×LA))->T):T:=br (decide (i<a.length)) (br (ixI a i) (br (ixT a i 2 [Sh.list 1,Sh.str] 0) (br ((xjN b c d a e (gC a i 0).toList (gC a i 1).toStr).isSome) (br ((xjN b c d a e (gC a i 0).toList (gC a i 1).toStr).getD 0 != 0) (κr (true,((xjN b c d a e (gC a i 0).toList (gC a i 1).toStr).getD 0,b,c,d,a,e),([],[],[],[],[]))) (κl (i64.wrap (i+1),b,c,d,a,e))) δ) δ) δ) (κr (false,(0,[],[],[],[],[]),(b,c,d,a,e)))
def xbw:StT (Int×List UInt8×LA×LA×LA×LA) (Bool×(Int×List UInt8×LA×LA×LA×LA)×(List UInt8×LA×LA×LA×LA)):=fun (i,a,b,c,d,e)=>xe7 i a b c d e none inL inR
def xg4:=xCl.l 60 0 [] [] Tryz.f79 0 lk0 [1,3] [1,2] [] (q2 (xPF 0 0 0 0) qI) (q1 (qB 0 5 27 (q1 (xPG (q5 pStr (qL 3) (qL 1) (qL 2) (qL 7)))))) (fun (_,i,_) (((a,b,c,d,e,_),_),_)=>(xbw,(i,a,b,c,d,e),fun p=>(.node p.1 (.leaf .ret [AV.own 0 0 0 0,AV.int .i64 p.2.1.1] [bF 0 5 27 [AV.agg [AV.str p.2.1.2.1,AV.list 3 p.2.1.2.2.1,AV.list 1 p.2.1.2.2.2.1,AV.list 2 p.2.1.2.2.2.2.1,AV.list 7 p.2.1.2.2.2.2.2]]]) (.leaf (.exit 0) [AV.own 0 0 0 0,.top] [bF 0 5 27 [AV.agg [AV.str p.2.2.1,AV.list 3 p.2.2.2.1,AV.list 1 p.2.2.2.2.1,AV.list 2 p.2.2.2.2.2.1,AV.list 7 p.2.2.2.2.2.2]]])))) (false,(0,[],[],[],[],[]),([],[],[],[],[])) fun _ _ (i,a,b,c,d,e)=>((((),i,()),(((a,b,c,d,e,()),()),())),xe7 i a b c d e none)
def xg8 (i:Int) (b:List UInt8) (c d e a:LA):=xtP (gC a i 0).toInt (gC a i 1).toInt (gC a i 2).toInt (gC a i 3).toInt (gC a i 4).toStr (gC a i 5).toStr (gC a i 6).toList ((xhV b c d e a).getD [])
def xg7 (i:Int) (a:List UInt8) (b c d e:LA):=(xg8 i a b c d e).getD (0,0)
def xg5 (i:Int) (a:List UInt8) (b c d e:LA):=(xg7 i a b c d e).fst
def xg6 (i:Int) (a:List UInt8) (b c d e:LA):=(xg7 i a b c d e).snd
def xe8 {T:Type} (i:Int) (b:List UInt8) (c d e a:LA) (δ:T) (κl:(Int×List UInt8×LA×LA×LA×LA)->T) (κr:(Bool×(Int)×(Unit))->T):T:=br (decide (i<a.length)) (br (ixI a i) (br (ixT a i 7 [Sh.int .i64,Sh.int .i64,Sh.int .i64,Sh.int .i64,Sh.str,Sh.str,Sh.list 7] 0) (br ((xhV b c d e a).isSome) (br ((xg8 i b c d e a).isSome) (br (xg6 i b c d e a != 0) (κr (true,(xg6 i b c d e a),())) (br (xg5 i b c d e a != 3) (br (xg5 i b c d e a != 0) (κr (true,(7),())) (κl (i64.wrap (i+1),b,c,d,e,a))) (κl (i64.wrap (i+1),b,c,d,e,a)))) δ) δ) δ) δ) (κr (false,0,()))
def xby:StT (Int×List UInt8×LA×LA×LA×LA) (Bool×(Int)×(Unit)):=fun (i,a,b,c,d,e)=>xe8 i a b c d e none inL inR
def xlF:=xCl.l 60 0 [] [(4,xg4.lp)] Tryz.f79 1 lk0 [1,5] [2] [] (q2 (xPF 0 0 0 0) qI) (q1 (qB 0 5 27 (q1 (xPG (q5 pStr (qL 3) (qL 1) (qL 2) (qL 7)))))) (fun (_,i,_) (((a,b,c,d,e,_),_),_)=>(xby,(i,a,b,c,d,e),fun p=>(.node p.1 (.leaf .ret [AV.int .i64 p.2.1] []) (.leaf (.exit 2) [.top] [])))) (false,0,()) fun _ _ (i,a,b,c,d,e)=>((((),i,()),(((a,b,c,d,e,()),()),())),xe8 i a b c d e none)
def xjo (e:List UInt8) (b a c d:LA):=Iter xbw (0,e,b,a,c,d)
def xjn (e:List UInt8) (b a c d:LA):=(xjo e b a c d).getD (false,(0,[],[],[],[],[]),[],[],[],[],[])
def xjm (e:List UInt8) (b a c d:LA):=(xjn e b a c d).snd
def xjl (e:List UInt8) (b a c d:LA):=(xjm e b a c d).snd
def xjk (e:List UInt8) (b a c d:LA):=(xjl e b a c d).snd
def xjj (e:List UInt8) (b a c d:LA):=(xjk e b a c d).snd
def xji (e:List UInt8) (b a c d:LA):=(xjj e b a c d).snd
def xjh (e:List UInt8) (b a c d:LA):=(xji e b a c d).snd
def xjg (e:List UInt8) (b a c d:LA):=Iter xby (0,(xjl e b a c d).fst,(xjk e b a c d).fst,(xjj e b a c d).fst,(xji e b a c d).fst,xjh e b a c d)
def xjf (e:List UInt8) (b a c d:LA):=(xjg e b a c d).getD (false,0,())
def xj0 {T:Type} (e:List UInt8) (c a b d:LA) (δ:T) (κ:Int->T):T:=br (decide ((↑b.length:Int)>4)) (κ (5)) (br ((xjo e c a b d).isSome) (br ((xjn e c a b d).fst) (κ ((xjm e c a b d).fst.fst)) (br (decide ((↑(xjh e c a b d).length:Int)>4)) (κ (5)) (br ((xjg e c a b d).isSome) (br ((xjf e c a b d).fst) (κ ((xjf e c a b d).snd.fst)) (κ (0))) δ))) δ)
def xek (e:List UInt8) (b a c d:LA):=xj0 e b a c d none some
def xKh:EO:=xCl.f Tryz.func79 60 0 [] [(4,xg4.lp),(12,xlF.lp)] (lks (lkC xg4.ok (lkC xlF.ok lkN))) (u1 (xPJ (u5 (sEq pStr) (uL 3) (uL 1) (uL 2) (uL 7)))) (fun ((e,b,a,c,d,_),_) _=>xj0 e b a c d) (fun _ p=>AV.int .i64 p) 0
def xq8 {T:Type} (e:List UInt8) (b a c d:LA) (δ:T) (κ:Int->T):T:=br ((xhw e).isSome) (br (!(xhw e).getD false) (κ (1)) (br ((xhf e b a c d).isSome) (br ((xhf e b a c d).getD 0==0) (br ((xqA e b a c d).isSome) (br ((xqA e b a c d).getD 0==0) (br ((xek e b a c d).isSome) (κ ((xek e b a c d).getD 0)) δ) (κ ((xqA e b a c d).getD 0))) δ) (br ((xhf e b a c d).getD 0==0) (br ((xek e b a c d).isSome) (κ ((xek e b a c d).getD 0)) δ) (κ ((xhf e b a c d).getD 0)))) δ)) δ
def xqe (e:List UInt8) (b a c d:LA):=xq8 e b a c d none some
def xB5:LA->Option (Bool×AV):=fnO (u1 (xPJ (u5 (sEq pStr) (uL 3) (uL 1) (uL 2) (uL 7)))) (fun ((e,b,a,c,d,_),_) _=>xq8 e b a c d) (fun _ p=>AV.int .i64 p) 0
theorem xB4:OcOk P0 xPq 49 xB5:=fnC xKh.ok Tryz.func49 19 0 [] [] lk0
def xLG:EO:=xLt.w xvi
def xLH:EO:=xLG.w xB4
def xHh:EO:=xLH.w xvj
def xja (a l:LA) (i:Int):=(xmQ a (gC l i 0).toInt).getD (0,0,[])
def xi9 (a l:LA) (i:Int):=(xja a l i).snd
def xkk {T:Type} (c l:LA) (b:Nat) (i:Int) (a:LA) (δ:T) (κl:(Nat×Int×LA)->T) (κr:(Nat×LA)->T):T:=br (decide (i<l.length)) (br (ixI l i) (br (ixS l i (Sh.int .i64) 0) (br ((xmQ c (gC l i 0).toInt).isSome) (br (rmB b a 1 32) (κl (b+1,i64.wrap (i+1),a++[AV.agg [AV.int .i64 (xja c l i).fst,AV.int .i64 (xi9 c l i).fst,AV.str (xi9 c l i).snd]])) δ) δ) δ) δ) (κr (b,a))
def xdU (c l:LA):StT (Nat×Int×LA) (Nat×LA):=fun (b,i,a)=>xkk c l b i a none inL inR
def xsm:=xHh.l 24 0 [] [] Tryz.f48 0 lk0 [0,1,5,6] [5] [(5,3,64)] (q4 (qL 3) (qL 1) (xPE 0 0 0) qI) (q1 (qB 0 3 64 xPv)) (fun (c,l,b,i,_) (a,_)=>(xdU c l,(b,i,a),fun p=>(.leaf (.exit 0) [AV.osl 0 0 0 p.1] [bF 0 3 64 p.2]))) (0,[]) fun (c,l,_,_,_) _ (b,i,a)=>(((c,l,b,i,()),(a,())),xkk c l b i a none)
def xq3 (a l:LA):=(Iter (xdU a l) (0,0,[])).getD (0,[])
def xq1 (a l:LA):=(xq3 a l).fst
def xq2 (a l:LA):=(xq3 a l).snd
def xsn {T:Type} (a l:LA) (δ:T) (κ:LA->T):T:=br ((Iter (xdU a l) (0,0,[])).isSome) (br (decide (0+xq1 a l<=(xq2 a l).length)&&true) (κ (List.take (xq1 a l) (List.drop 0 (xq2 a l)))) δ) δ
def xrO (a l:LA):=xsn a l none some
def xGY:EO:=xHh.f Tryz.func48 24 0 [] [(3,xsm.lp)] (lk1 xsm.ok) (u2 (uL 3) (uL 1)) (fun (a,l,_) _=>xsn a l) (fun _ p=>AV.list 3 p) []
def xi8 (a:LA) (i:Int):=ixI a i
def xmS (a:LA) (i:Int):=xmd (gC a i 0).toInt (gC a i 1).toInt (gC a i 2).toStr
def xkj {T:Type} (a b:LA) (i:Int) (δ:T) (κl:(Int)->T) (κr:(Bool×(Bool)×(Unit))->T):T:=br (decide (i<a.length)) (br (xi8 a i) (br (ixT a i 3 [Sh.int .i64,Sh.int .i64,Sh.str] 0) (br ((xmS a i).isSome) (br (!(xmS a i).getD false) (κr (true,(false),())) (br (xi8 a i) (br (ixS a i (Sh.int .i64) 0) (br ((gC a i 0).toInt != 0) (br (xi8 a i) (br (ixS a i (Sh.int .i64) 0) (br (ixI b i) (br (ixS b i (Sh.int .i64) 0) (br ((gC a i 0).toInt != (gC b i 0).toInt) (κr (true,(false),())) (κl (i64.wrap (i+1)))) δ) δ) δ) δ) (κl (i64.wrap (i+1)))) δ) δ)) δ) δ) δ) (κr (false,false,()))
def xcv (b a:LA):StT (Int) (Bool×(Bool)×(Unit)):=fun (i)=>xkj b a i none inL inR
def xsj:=xGY.l 43 0 [] [] Tryz.f80 0 lk0 [0,1,5] [4] [] (q3 (qL 3) (qL 1) qI) xPt (fun (b,a,i,_) _=>(xcv b a,(i),fun p=>(.node p.1 (.leaf .ret [AV.bool p.2.1] []) (.leaf (.exit 0) [.top] [])))) (false,false,()) fun (b,a,_,_) _ (i)=>(((b,a,i,()),()),xkj b a i none)
def xsk {T:Type} (b a:LA) (δ:T) (κ:Bool->T):T:=br ((↑b.length:Int) != (↑a.length:Int)) (κ (false)) (br ((Iter (xcv b a) 0).isSome) (br (((Iter (xcv b a) 0).getD (false,false,())).fst) (κ (((Iter (xcv b a) 0).getD (false,false,())).snd.fst)) (κ (true))) δ)
def xrN (b a:LA):=xsk b a none some
def xLu:EO:=xGY.f Tryz.func80 43 0 [] [(4,xsj.lp)] (lk1 xsj.ok) (u2 (uL 3) (uL 1)) (fun (b,a,_) _=>xsk b a) (fun _ p=>AV.bool p) false
def xzz (k:Int):Bool:=(br (k==1) ((true)) (br (k==2) ((true)) ((k==3))))
def xDv {T:Type} (k:Int) (δ:T) (κ:Bool->T):T:=br (k==1) (κ (true)) (br (k==2) (κ (true)) (κ (k==3)))
def xGZ:EO:=xLu.fT Tryz.func109 13 0 [] [] lk0 (fun (k,_)=>xDv k none) (u1 uI) (fun (k,_)=>xzz k) (fun _ p=>(AV.bool p))
def xjp {T:Type} (l:LA) (i:Int) (δ:T) (κl:(Int)->T) (κr:(Bool×(Bool)×(Unit))->T):T:=br (decide (i<l.length)) (br (ixI l i) (br (ixS l i (Sh.int .i64) 0) (br (!xzz (gC l i 0).toInt) (κr (true,(false),())) (κl (i64.wrap (i+1)))) δ) δ) (κr (false,false,()))
def xcd (l:LA):StT (Int) (Bool×(Bool)×(Unit)):=fun (i)=>xjp l i none inL inR
def xrv:=xGZ.l 16 0 [] [] Tryz.f81 0 lk0 [0,3] [2] [] (q2 (qL 1) qI) xPt (fun (l,i,_) _=>(xcd l,(i),fun p=>(.node p.1 (.leaf .ret [AV.bool p.2.1] []) (.leaf (.exit 0) [.top] [])))) (false,false,()) fun (l,_,_) _ (i)=>(((l,i,()),()),xjp l i none)
def xrd {T:Type} (l:LA) (δ:T) (κ:Bool->T):T:=br ((Iter (xcd l) 0).isSome) (br (((Iter (xcd l) 0).getD (false,false,())).fst) (κ (((Iter (xcd l) 0).getD (false,false,())).snd.fst)) (κ (true))) δ
def xtU (l:LA):=xrd l none some
def xGx:EO:=xGZ.f Tryz.func81 16 0 [] [(2,xrv.lp)] (lk1 xrv.ok) (u1 (uL 1)) (fun (l,_) _=>xrd l) (fun _ p=>AV.bool p) false
def xjq {T:Type} (i:Int) (b a:LA) (δ:T) (κl:(Int×LA×LA)->T) (κr:(Bool×(Bool×LA×LA)×(LA×LA))->T):T:=br (decide (i<a.length)) (br (ixI a i) (br (ixT a i 3 [Sh.int .i64,Sh.int .i64] 1) (br (!xe6 (gC a i 1).toInt (gC a i 2).toInt) (κr (true,(false,b,a),([],[]))) (br (ixI a i) (br (ixS a i (Sh.list 3) 0) (br ((xrN (gC a i 0).toList b).isSome) (br (!(xrN (gC a i 0).toList b).getD false) (κr (true,(false,b,a),([],[]))) (κl (i64.wrap (i+1),b,a))) δ) δ) δ)) δ) δ) (κr (false,(false,[],[]),(b,a)))
def xce:StT (Int×LA×LA) (Bool×(Bool×LA×LA)×(LA×LA)):=fun (i,a,b)=>xjq i a b none inL inR
def xrw:=xGx.l 46 0 [] [] Tryz.f50 0 lk0 [1,3] [1,2] [] (q2 (xPF 0 0 0 0) qI) (q1 (qB 0 2 84 (q1 (xPG (q2 (qL 1) (qL 3)))))) (fun (_,i,_) (((a,b,_),_),_)=>(xce,(i,a,b),fun p=>(.node p.1 (.leaf .ret [AV.own 0 0 0 0,AV.bool p.2.1.1] [bF 0 2 84 [AV.agg [AV.list 1 p.2.1.2.1,AV.list 3 p.2.1.2.2]]]) (.leaf (.exit 0) [AV.own 0 0 0 0,.top] [bF 0 2 84 [AV.agg [AV.list 1 p.2.2.1,AV.list 3 p.2.2.2]]])))) (false,(false,[],[]),([],[])) fun _ _ (i,a,b)=>((((),i,()),(((a,b,()),()),())),xjq i a b none)
def xpQ (a b:LA):=(Iter xce (0,a,b)).getD (false,(false,[],[]),[],[])
def xpP (a b:LA):=(xpQ a b).snd
def xpO (a b:LA):=(xpP a b).snd.fst
def xpM (a b:LA):=(↑(xpO a b).length:Int)
def xpN (a b:LA):=xtU (xpO a b)
def xri {T:Type} (a b:LA) (δ:T) (κ:Bool->T):T:=br ((Iter xce (0,a,b)).isSome) (br ((xpQ a b).fst) (κ ((xpP a b).fst.fst)) (br (decide (xpM a b>0)) (br (decide (xpM a b<=48)) (br ((xpN a b).isSome) (κ ((xpN a b).getD false)) δ) (κ (false))) (κ (false)))) δ
def xqf (a b:LA):=xri a b none some
def xG0:EO:=xGx.f Tryz.func50 46 0 [] [(2,xrw.lp)] (lk1 xrw.ok) (u1 (xPJ (u2 (uL 1) (uL 3)))) (fun ((a,b,_),_) _=>xri a b) (fun _ p=>AV.bool p) false
def xfs (l:LA) (i:Int):=ixI l i
def xh3 {T:Type} (l a:LA) (i:Int) (δ:T) (κl:(LA×Int)->T) (κr:(LA)->T):T:=br (decide (i<l.length)) (br (xfs l i) (br (ixT l i 2 [Sh.int .i64,Sh.int .i64] 0) (br (xe6 (gC l i 0).toInt (gC l i 1).toInt) (br (xfs l i) (br (ixS l i (Sh.int .i64) 0) (br ((xb3 a (gC l i 0).toInt).isSome) (br (xfs l i) (br (ixS l i (Sh.int .i64) 1) (br ((xb3 ((xb3 a (gC l i 0).toInt).getD []) (gC l i 1).toInt).isSome) (κl ((xb3 ((xb3 a (gC l i 0).toInt).getD []) (gC l i 1).toInt).getD [],i64.wrap (i+1))) δ) δ) δ) δ) δ) δ) (κl (a,i64.wrap (i+1)))) δ) δ) (κr (a))
def xcN (l:LA):StT (LA×Int) (LA):=fun (a,i)=>xh3 l a i none inL inR
def xqr:=xG0.l 31 0 [] [] Tryz.f95 0 lk0 [0,3,4] [3] [(3,1,1073741824)] (q3 (qL 2) (qL 1) qI) xPt (fun (l,a,i,_) _=>(xcN l,(a,i),fun p=>(.leaf (.exit 0) [AV.list 1 p] []))) [] fun (l,_,_,_) _ (a,i)=>(((l,a,i,()),()),xh3 l a i none)
def xpn {T:Type} (l:LA) (δ:T) (κ:LA->T):T:=br ((Iter (xcN l) ([],0)).isSome) (κ ((Iter (xcN l) ([],0)).getD [])) δ
def xsh (l:LA):=xpn l none some
def xG1:EO:=xG0.f Tryz.func95 31 0 [] [(3,xqr.lp)] (lk1 xqr.ok) (u1 (uL 2)) (fun (l,_) _=>xpn l) (fun _ p=>AV.list 1 p) []
def xgY {T:Type} (l:LA) (t i:Int) (δ:T) (κl:(Int)->T) (κr:(Bool×(Bool)×(Unit))->T):T:=br (decide (i<l.length)) (br (ixI l i) (br (ixT l i 2 [Sh.int .i64,Sh.int .i64] 0) (br (xif (gC l i 0).toInt (gC l i 1).toInt t) (κr (true,(true),())) (κl (i64.wrap (i+1)))) δ) δ) (κr (false,false,()))
def xa1 (l:LA) (t:Int):StT (Int) (Bool×(Bool)×(Unit)):=fun (i)=>xgY l t i none inL inR
def xn1:=xG1.l 18 0 [] [] Tryz.f25 0 lk0 [0,1,5] [4] [] (q3 (qL 2) qI qI) xPt (fun (l,t,i,_) _=>(xa1 l t,(i),fun p=>(.node p.1 (.leaf .ret [AV.bool p.2.1] []) (.leaf (.exit 0) [.top] [])))) (false,false,()) fun (l,t,_,_) _ (i)=>(((l,t,i,()),()),xgY l t i none)
def xmK {T:Type} (l:LA) (t:Int) (δ:T) (κ:Bool->T):T:=br ((Iter (xa1 l t) 0).isSome) (br (((Iter (xa1 l t) 0).getD (false,false,())).fst) (κ (((Iter (xa1 l t) 0).getD (false,false,())).snd.fst)) (κ (false))) δ
def xgF (l:LA) (t:Int):=xmK l t none some
def xLv:EO:=xG1.f Tryz.func25 18 0 [] [(2,xn1.lp)] (lk1 xn1.ok) (u2 (uL 2) uI) (fun (l,t,_) _=>xmK l t) (fun _ p=>AV.bool p) false
def xdD (c:Int) (a b:Bool):Bool:=(br (c==1) (br (a) ((b)) ((false))) (br (c==2) (br (a) ((true)) ((b))) (br (c==3) (br (a) ((!b)) ((false))) (br (!a) ((!b)) ((false))))))
def xAo {T:Type} (c:Int) (a b:Bool) (δ:T) (κ:Bool->T):T:=br (c==1) (br (a) (κ (b)) (κ (false))) (br (c==2) (br (a) (κ (true)) (κ (b))) (br (c==3) (br (a) (κ (!b)) (κ (false))) (br (!a) (κ (!b)) (κ (false)))))
def xG2:EO:=xLv.fT Tryz.func96 32 0 [] [] lk0 (fun (c,a,b,_)=>xAo c a b none) (u3 uI (sEq pBool) (sEq pBool)) (fun (c,a,b,_)=>xdD c a b) (fun _ p=>(AV.bool p))
def xed (a:LA) (i:Int):=decide (0<=i64.wrap (i - 1))&&decide (i64.wrap (i - 1)<(↑a.length:Int))
def xee (a:LA) (i:Int):=decide ((i64.wrap (i - 1)).toNat<a.length)&&xOI (Sh.int .i64) ((a.getD (i64.wrap (i - 1)).toNat .top).cells.getD 0 .top)
def xbi (a:LA) (i:Int):=((a.getD (i64.wrap (i - 1)).toNat .top).cells.getD 0 .top).toInt
def xgi (c:LA) (b:Nat) (i:Int) (a:LA):=(xa4 b (xbi c i) (gC c i 0).toInt a).getD (false,(0,[],[]),0,[])
def xgg (c:LA) (b:Nat) (i:Int) (a:LA):=(xgi c b i a).fst
def xgh (c:LA) (b:Nat) (i:Int) (a:LA):=(xgi c b i a).snd
def xge (c:LA) (b:Nat) (i:Int) (a:LA):=(xgh c b i a).fst
def xgf (c:LA) (b:Nat) (i:Int) (a:LA):=(xgh c b i a).snd
def xeJ {T:Type} (f:Int) (a b e:LA) (d:Nat) (i:Int) (c:LA) (δ:T) (κl:(Nat×Int×LA)->T) (κr:(Nat×LA)->T):T:=br (decide (i<e.length)) (br (xed e i) (br (xee e i) (br ((xgF a (xbi e i)).isSome) (br (xed e i) (br (xee e i) (br ((xgF b (xbi e i)).isSome) (br (xdD f ((xgF a (xbi e i)).getD false) ((xgF b (xbi e i)).getD false)) (br (xed e i) (br (xee e i) (br (ixI e i) (br (ixS e i (Sh.int .i64) 0) (br ((xa4 d (xbi e i) (gC e i 0).toInt c).isSome) (κl (br (xgg e d i c) (xge e d i c).fst (xgf e d i c).fst,i64.wrap (i+1),br (xgg e d i c) (xge e d i c).snd.snd (xgf e d i c).snd)) δ) δ) δ) δ) δ) (κl (d,i64.wrap (i+1),c))) δ) δ) δ) δ) δ) δ) (κr (d,c))
def xbt (e:Int) (a b f:LA):StT (Nat×Int×LA) (Nat×LA):=fun (d,i,c)=>xeJ e a b f d i c none inL inR
def xn2:=xG2.l 58 0 [] [] Tryz.f67 0 lk0 [0,1,2,8,9,10] [9] [(9,2,50)] (q6 qI (qL 2) (qL 2) (qL 1) (xPE 0 0 0) qI) (q1 (qB 0 2 50 xPv)) (fun (e,a,b,f,d,i,_) (c,_)=>(xbt e a b f,(d,i,c),fun p=>(.leaf (.exit 0) [AV.osl 0 0 0 p.1] [bF 0 2 50 p.2]))) (0,[]) fun (e,a,b,f,_,_,_) _ (d,i,c)=>(((e,a,b,f,d,i,()),(c,())),xeJ e a b f d i c none)
def xf2 (a b:LA):Nat:=1+a.length+b.length
def xlO (a b:LA):LA:=[AV.agg [AV.int .i64 0,AV.int .i64 1099511627776]]++a++b
def xlN (a b:LA):=xsh (List.take (xf2 a b) (List.drop 0 (xlO a b)))
def xlM (c:Int) (a b:LA):=Iter (xbt c a b ((xlN a b).getD [])) (0,1,[])
def xlL (c:Int) (a b:LA):=(xlM c a b).getD (0,[])
def xlJ (c:Int) (a b:LA):=(xlL c a b).snd
def xlK (c:Int) (a b:LA):=(xlL c a b).fst
def xmM {T:Type} (c:Int) (a b:LA) (δ:T) (κ:LA->T):T:=br (decide ((1+a.length)*16<=140737488355328)&&decide (1+a.length<=4611686018427387904)) (br (1+a.length==([AV.agg [AV.int .i64 0,AV.int .i64 1099511627776]]++a).length&&(decide (xf2 a b*16<=140737488355328)&&decide (xf2 a b<=4611686018427387904))) (br (decide (0+xf2 a b<=(xlO a b).length)&&true) (br ((xlN a b).isSome) (br ((xlM c a b).isSome) (br (decide (0+xlK c a b<=(xlJ c a b).length)&&true) (κ (List.take (xlK c a b) (List.drop 0 (xlJ c a b)))) δ) δ) δ) δ) δ) δ
def xlq (c:Int) (a b:LA):=xmM c a b none some
def xLw:EO:=xG2.f Tryz.func67 58 0 [] [(8,xn2.lp)] (lk1 xn2.ok) (u3 uI (uL 2) (uL 2)) (fun (c,a,b,_) _=>xmM c a b) (fun _ p=>AV.list 2 p) []
def xlI {T:Type} (a b:LA) (δ:T) (κ:LA->T):T:=br ((xlq 1 a b).isSome) (κ ((xlq 1 a b).getD [])) δ
def xkh (a b:LA):=xlI a b none some
def xLy:EO:=xLw.f Tryz.func37 8 0 [] [] lk0 (u2 (uL 2) (uL 2)) (fun (a,b,_) _=>xlI a b) (fun _ p=>AV.list 2 p) []
def xoF {T:Type} (e:List UInt8) (b a c d l:LA) (δ:T) (κ:Bool->T):T:=br ((xqe e b a c d).isSome) (br ((xqe e b a c d).getD 0==0) (br ((xhV e b a c d).isSome) (br ((xqf ((xhV e b a c d).getD []) l).isSome) (κ ((xqf ((xhV e b a c d).getD []) l).getD false)) δ) δ) (κ (false))) δ
def xmr (e:List UInt8) (b a c d l:LA):=xoF e b a c d l none some
def xLD:EO:=xLy.f Tryz.func28 15 0 [] [] lk0 (u2 (xPJ (u5 (sEq pStr) (uL 3) (uL 1) (uL 2) (uL 7))) (uL 3)) (fun ((e,b,a,c,d,_),l,_) _=>xoF e b a c d l) (fun _ p=>AV.bool p) false
def xtX {T:Type} (f:List UInt8) (c a d e b:LA) (δ:T) (κ:LA->T):T:=br ((xrO b a).isSome) (κ ((xrO b a).getD [])) δ
def xni (e:List UInt8) (b a c d f:LA):=xtX e b a c d f none some
def xHe:EO:=xLD.f Tryz.func26 9 0 [] [] lk0 (u2 (xPJ (u5 (sEq pStr) (uL 3) (uL 1) (uL 2) (uL 7))) (uL 3)) (fun ((e,b,a,c,d,_),g,_) _=>xtX e b a c d g) (fun _ p=>AV.list 3 p) []
def xhB {T:Type} (l h:LA) (b:Nat) (i:Int) (c:List UInt8) (d e f g a:LA) (δ:T) (κl:(Nat×Int×List UInt8×LA×LA×LA×LA×LA)->T) (κr:(Nat×LA)->T):T:=br (decide (i<l.length)) (br (ixI l i) (br (ixS l i (Sh.list 3) 0) (br ((xni c d e f g (gC l i 0).toList).isSome) (br ((xat ((xni c d e f g (gC l i 0).toList).getD []) h).isSome) (br ((xat ((xni c d e f g (gC l i 0).toList).getD []) h).getD 0==0) (br (ixI l i) (br (ixT l i 3 [Sh.int .i64,Sh.int .i64] 1) (br (rmB b a 1 16) (κl (b+1,i64.wrap (i+1),c,d,e,f,g,a++[AV.agg [AV.int .i64 (gC l i 1).toInt,AV.int .i64 (gC l i 2).toInt]])) δ) δ) δ) (κl (b,i64.wrap (i+1),c,d,e,f,g,a))) δ) δ) δ) δ) (κr (b,a))
def xcn (l c:LA):StT (Nat×Int×List UInt8×LA×LA×LA×LA×LA) (Nat×LA):=fun (b,i,d,e,f,g,h,a)=>xhB l c b i d e f g h a none inL inR
def xoY:=xHe.l 34 0 [] [] Tryz.f45 0 lk0 [1,2,3,7,8] [7] [(7,2,50)] (q5 (qL 3) (qL 3) (xPF 0 0 0 0) (xPE 1 0 0) qI) (q2 (qB 0 5 27 (q1 (xPG (q5 pStr (qL 3) (qL 1) (qL 2) (qL 7))))) (qB 0 2 50 xPv)) (fun (l,c,_,b,i,_) (((d,e,f,g,h,_),_),a,_)=>(xcn l c,(b,i,d,e,f,g,h,a),fun p=>(.leaf (.exit 0) [AV.osl 0 0 0 p.1] [bF 0 2 50 p.2]))) (0,[]) fun (l,c,_,_,_,_) _ (b,i,d,e,f,g,h,a)=>(((l,c,(),b,i,()),(((d,e,f,g,h,()),()),a,())),xhB l c b i d e f g h a none)
def xm3 (e:List UInt8) (b a c d l f:LA):=Iter (xcn l f) (0,0,e,b,a,c,d,[])
def xm2 (e:List UInt8) (b a c d l f:LA):=(xm3 e b a c d l f).getD (0,[])
def xm0 (e:List UInt8) (b a c d l f:LA):=(xm2 e b a c d l f).fst
def xm1 (e:List UInt8) (b a c d l f:LA):=(xm2 e b a c d l f).snd
def xoG {T:Type} (e:List UInt8) (b a c d l f:LA) (δ:T) (κ:LA->T):T:=br ((xm3 e b a c d l f).isSome) (br (decide (0+xm0 e b a c d l f<=(xm1 e b a c d l f).length)&&true) (κ (List.take (xm0 e b a c d l f) (List.drop 0 (xm1 e b a c d l f)))) δ) δ
def xms (e:List UInt8) (b a c d l f:LA):=xoG e b a c d l f none some
def xHf:EO:=xHe.f Tryz.func45 34 0 [] [(3,xoY.lp)] (lk1 xoY.ok) (u3 (xPJ (u5 (sEq pStr) (uL 3) (uL 1) (uL 2) (uL 7))) (uL 3) (uL 3)) (fun ((e,b,a,c,d,_),l,g,_) _=>xoG e b a c d l g) (fun _ p=>AV.list 2 p) []
def xjr {T:Type} (b:LA) (c:Nat) (i:Int) (a:LA) (δ:T) (κl:(Nat×Int×LA)->T) (κr:(Nat×LA)->T):T:=br (decide (i<b.length)) (br (ixI b i) (br (ixT b i 2 [Sh.int .i64,Sh.int .i64] 0) (br (rmB c a 1 24) (κl (c+1,i64.wrap (i+1),a++[AV.agg [AV.int .i64 (gC b i 0).toInt,AV.int .i64 (gC b i 1).toInt,AV.int .i64 1]])) δ) δ) δ) (κr (c,a))
def xeL (c:LA):StT (Nat×Int×LA) (Nat×LA):=fun (b,i,a)=>xjr c b i a none inL inR
def xry:=xHf.l 31 0 [] [] Tryz.f38 0 lk0 [7,8,9] [8] [(8,3,88)] (q3 (qL 2) (xPE 0 0 0) qI) (q1 (qB 0 3 88 xPv)) (fun (c,b,i,_) (a,_)=>(xeL c,(b,i,a),fun p=>(.leaf (.exit 0) [AV.osl 0 0 0 p.1] [bF 0 3 88 p.2]))) (0,[]) fun (c,_,_,_) _ (b,i,a)=>(((c,b,i,()),(a,())),xjr c b i a none)
def xpY (e:List UInt8) (b a c d l f:LA):=Iter (xeL ((xms e b a c d l f).getD [])) (0,0,[])
def xpX (e:List UInt8) (b a c d l f:LA):=(xpY e b a c d l f).getD (0,[])
def xpV (e:List UInt8) (b a c d l f:LA):=(xpX e b a c d l f).snd
def xpW (e:List UInt8) (b a c d l f:LA):=(xpX e b a c d l f).fst
def xpU (e:List UInt8) (b a c d l f:LA):=xsi (List.take (xpW e b a c d l f) (List.drop 0 (xpV e b a c d l f)))
def xpT (e:List UInt8) (b a c d l f:LA):=xcI ((xpU e b a c d l f).getD []) 2
def xrk {T:Type} (e:List UInt8) (b a c d l f:LA) (δ:T) (κ:LA->T):T:=br ((xms e b a c d l f).isSome) (br ((xpY e b a c d l f).isSome) (br (decide (0+xpW e b a c d l f<=(xpV e b a c d l f).length)&&true) (br ((xpU e b a c d l f).isSome) (br ((xpT e b a c d l f).isSome) (κ ((xpT e b a c d l f).getD [])) δ) δ) δ) δ) δ
def xtY (e:List UInt8) (b a c d l f:LA):=xrk e b a c d l f none some
def xyU:EO:=xHf.f Tryz.func38 31 0 [] [(4,xry.lp)] (lk1 xry.ok) (u3 (xPJ (u5 (sEq pStr) (uL 3) (uL 1) (uL 2) (uL 7))) (uL 3) (uL 3)) (fun ((e,b,a,c,d,_),l,g,_) _=>xrk e b a c d l g) (fun _ p=>AV.list 2 p) []
def xfK {T:Type} (l d e:LA) (n:Nat) (i:Int) (b:Nat) (k:Int) (f:List UInt8) (g h j m c a:LA) (δ:T) (κl:(Nat×Int×List UInt8×LA×LA×LA×LA×LA×LA)->T) (κr:(Nat×List UInt8×LA×LA×LA×LA×LA×LA)->T):T:=br (decide (k<d.length)) (br (ixI d k) (br (ixS d k (Sh.list 3) 0) (br (ixI e i) (br (ixS e i (Sh.list 3) 0) (br ((xat (gC d k 0).toList (gC e i 0).toList).isSome) (br ((xat (gC d k 0).toList (gC e i 0).toList).getD 0==0) (br (ixI d k) (br (ixT d k 3 [Sh.int .i64,Sh.int .i64] 1) (br (rmB b a 1 16) (κl (b+1,i64.wrap (k+1),f,g,h,j,m,c,a++[AV.agg [AV.int .i64 (gC d k 1).toInt,AV.int .i64 (gC d k 2).toInt]])) δ) δ) δ) (κl (b,i64.wrap (k+1),f,g,h,j,m,c,a))) δ) δ) δ) δ) δ) (κr (b,f,g,h,j,m,c,a))
def xbL (l n e:LA) (d:Nat) (i:Int):StT (Nat×Int×List UInt8×LA×LA×LA×LA×LA×LA) (Nat×List UInt8×LA×LA×LA×LA×LA×LA):=fun (b,k,f,g,h,j,m,c,a)=>xfK l n e d i b k f g h j m c a none inL inR
def xdE:=xyU.l 80 0 [] [] Tryz.f14 1 lk0 [1,2,5,6,7,8,9,10] [1,2,5,6,7,8,9] [(7,6,52),(9,2,50)] (q8 (qL 3) (xPF 0 0 0 0) (qL 3) (qL 1) (xPE 1 0 0) qI (xPE 2 0 0) qI) (q3 (qB 0 5 27 (q1 (xPG (q5 pStr (qL 3) (qL 1) (qL 2) (qL 7))))) (qB 0 6 52 xPv) (qB 0 2 50 xPv)) (fun (l,_,n,e,c,i,b,k,_) (((f,g,h,j,m,_),_),d,a,_)=>(xbL l n e c i,(b,k,f,g,h,j,m,d,a),fun p=>(.leaf (.exit 2) [AV.list 3 l,AV.own 0 0 0 0,AV.list 3 n,AV.list 1 e,AV.osl 1 0 0 c,AV.int .i64 i,AV.osl 2 0 0 p.1] [bF 0 5 27 [AV.agg [AV.str p.2.1,AV.list 3 p.2.2.1,AV.list 1 p.2.2.2.1,AV.list 2 p.2.2.2.2.1,AV.list 7 p.2.2.2.2.2.1]],bF 0 6 52 p.2.2.2.2.2.2.1,bF 0 2 50 p.2.2.2.2.2.2.2]))) (0,[],[],[],[],[],[],[]) fun (l,_,n,e,c,i,_,_,_) _ (b,k,f,g,h,j,m,d,a)=>(((l,(),n,e,c,i,b,k,()),(((f,g,h,j,m,()),()),d,a,())),xfK l n e c i b k f g h j m d a none)
def xfL {T:Type} (l m c:LA) (i:Int) (d:LA) (b:Nat) (k:Int) (e:List UInt8) (f g h j a:LA) (δ:T) (κl:(Nat×Int×List UInt8×LA×LA×LA×LA×LA)->T) (κr:(Nat×List UInt8×LA×LA×LA×LA×LA)->T):T:=br (decide (k<d.length)) (br (ixI c i) (br (ixS c i (Sh.list 3) 0) (br (ixI d k) (br (ixT d k 2 [Sh.int .i64,Sh.int .i64] 0) (br (rmB b a 1 72) (κl (b+1,i64.wrap (k+1),e,f,g,h,j,a++[AV.agg [AV.int .i64 2,AV.str e,AV.int .i64 0,AV.list 3 (gC c i 0).toList,AV.int .i64 (gC d k 0).toInt,AV.int .i64 (gC d k 1).toInt]])) δ) δ) δ) δ) δ) (κr (b,e,f,g,h,j,a))
def xbM (l j c:LA) (i:Int) (m:LA):StT (Nat×Int×List UInt8×LA×LA×LA×LA×LA) (Nat×List UInt8×LA×LA×LA×LA×LA):=fun (b,k,d,e,f,g,h,a)=>xfL l j c i m b k d e f g h a none inL inR
def xfj:=xyU.l 80 0 [] [(9,xdE.lp)] Tryz.f14 2 lk0 [1,2,5,6,7,8,11,12] [1,2,5,6,7,8] [(7,6,52)] (q8 (qL 3) (xPF 0 0 0 0) (qL 3) (qL 1) (xPE 1 0 0) qI (qL 2) qI) (q2 (qB 0 5 27 (q1 (xPG (q5 pStr (qL 3) (qL 1) (qL 2) (qL 7))))) (qB 0 6 52 xPv)) (fun (l,_,j,c,b,i,m,k,_) (((d,e,f,g,h,_),_),a,_)=>(xbM l j c i m,(b,k,d,e,f,g,h,a),fun p=>(.leaf (.exit 4) [AV.list 3 l,AV.own 0 0 0 0,AV.list 3 j,AV.list 1 c,AV.osl 1 0 0 p.1,AV.int .i64 i] [bF 0 5 27 [AV.agg [AV.str p.2.1,AV.list 3 p.2.2.1,AV.list 1 p.2.2.2.1,AV.list 2 p.2.2.2.2.1,AV.list 7 p.2.2.2.2.2.1]],bF 0 6 52 p.2.2.2.2.2.2]))) (0,[],[],[],[],[],[]) fun (l,_,j,c,_,i,m,_,_) _ (b,k,d,e,f,g,h,a)=>(((l,(),j,c,b,i,m,k,()),(((d,e,f,g,h,()),()),a,())),xfL l j c i m b k d e f g h a none)
def xeA (l j c:LA) (b:Nat) (i:Int) (d:List UInt8) (e f g h a:LA):=Iter (xbL l j c b i) (0,0,d,e,f,g,h,a,[])
def xez (l j c:LA) (b:Nat) (i:Int) (d:List UInt8) (e f g h a:LA):=(xeA l j c b i d e f g h a).getD (0,[],[],[],[],[],[],[])
def xew (l j c:LA) (b:Nat) (i:Int) (d:List UInt8) (e f g h a:LA):=(xez l j c b i d e f g h a).snd
def xey (l j c:LA) (b:Nat) (i:Int) (d:List UInt8) (e f g h a:LA):=(xez l j c b i d e f g h a).fst
def xc8 (l j c:LA) (b:Nat) (i:Int) (d:List UInt8) (e f g h a:LA):=(xew l j c b i d e f g h a).fst
def xev (l j c:LA) (b:Nat) (i:Int) (d:List UInt8) (e f g h a:LA):=(xew l j c b i d e f g h a).snd
def xc7 (l j c:LA) (b:Nat) (i:Int) (d:List UInt8) (e f g h a:LA):=(xev l j c b i d e f g h a).fst
def xeu (l j c:LA) (b:Nat) (i:Int) (d:List UInt8) (e f g h a:LA):=(xev l j c b i d e f g h a).snd
def xc6 (l j c:LA) (b:Nat) (i:Int) (d:List UInt8) (e f g h a:LA):=(xeu l j c b i d e f g h a).fst
def xet (l j c:LA) (b:Nat) (i:Int) (d:List UInt8) (e f g h a:LA):=(xeu l j c b i d e f g h a).snd
def xc5 (l j c:LA) (b:Nat) (i:Int) (d:List UInt8) (e f g h a:LA):=(xet l j c b i d e f g h a).fst
def xes (l j c:LA) (b:Nat) (i:Int) (d:List UInt8) (e f g h a:LA):=(xet l j c b i d e f g h a).snd
def xc4 (l j c:LA) (b:Nat) (i:Int) (d:List UInt8) (e f g h a:LA):=(xes l j c b i d e f g h a).fst
def xer (l j c:LA) (b:Nat) (i:Int) (d:List UInt8) (e f g h a:LA):=(xes l j c b i d e f g h a).snd
def xfi (l j c:LA) (b:Nat) (i:Int) (d:List UInt8) (e f g h a:LA):=xni (xc8 l j c b i d e f g h a) (xc7 l j c b i d e f g h a) (xc6 l j c b i d e f g h a) (xc5 l j c b i d e f g h a) (xc4 l j c b i d e f g h a) (gC c i 0).toList
def xeq (l j c:LA) (b:Nat) (i:Int) (d:List UInt8) (e f g h a:LA):=(xer l j c b i d e f g h a).snd
def xfh (l j c:LA) (b:Nat) (i:Int) (d:List UInt8) (e f g h a:LA):=xtY (xc8 l j c b i d e f g h a) (xc7 l j c b i d e f g h a) (xc6 l j c b i d e f g h a) (xc5 l j c b i d e f g h a) (xc4 l j c b i d e f g h a) l ((xfi l j c b i d e f g h a).getD [])
def xfg (l j c:LA) (b:Nat) (i:Int) (d:List UInt8) (e f g h a:LA):=xkh (List.take (xey l j c b i d e f g h a) (List.drop 0 (xeq l j c b i d e f g h a))) ((xfh l j c b i d e f g h a).getD [])
def xff (l j c:LA) (b:Nat) (i:Int) (d:List UInt8) (e f g h a:LA):=Iter (xbM l j c i ((xfg l j c b i d e f g h a).getD [])) (b,0,xc8 l j c b i d e f g h a,xc7 l j c b i d e f g h a,xc6 l j c b i d e f g h a,xc5 l j c b i d e f g h a,xc4 l j c b i d e f g h a,(xer l j c b i d e f g h a).fst)
def xfe (l j c:LA) (b:Nat) (i:Int) (d:List UInt8) (e f g h a:LA):=(xff l j c b i d e f g h a).getD (0,[],[],[],[],[],[])
def xfd (l j c:LA) (b:Nat) (i:Int) (d:List UInt8) (e f g h a:LA):=(xfe l j c b i d e f g h a).snd
def xfc (l j c:LA) (b:Nat) (i:Int) (d:List UInt8) (e f g h a:LA):=(xfd l j c b i d e f g h a).snd
def xfb (l j c:LA) (b:Nat) (i:Int) (d:List UInt8) (e f g h a:LA):=(xfc l j c b i d e f g h a).snd
def xfa (l j c:LA) (b:Nat) (i:Int) (d:List UInt8) (e f g h a:LA):=(xfb l j c b i d e f g h a).snd
def xe9 (l j c:LA) (b:Nat) (i:Int) (d:List UInt8) (e f g h a:LA):=(xfa l j c b i d e f g h a).snd
def xfJ {T:Type} (l j c:LA) (b:Nat) (i:Int) (d:List UInt8) (e f g h a:LA) (δ:T) (κl:(Nat×Int×List UInt8×LA×LA×LA×LA×LA)->T) (κr:(Nat×LA)->T):T:=br (decide (i<c.length)) (br ((xeA l j c b i d e f g h a).isSome) (br (ixI c i) (br (ixS c i (Sh.list 3) 0) (br ((xfi l j c b i d e f g h a).isSome) (br ((xfh l j c b i d e f g h a).isSome) (br (decide (0+xey l j c b i d e f g h a<=(xeq l j c b i d e f g h a).length)&&true) (br ((xfg l j c b i d e f g h a).isSome) (br ((xff l j c b i d e f g h a).isSome) (κl ((xfe l j c b i d e f g h a).fst,i64.wrap (i+1),(xfd l j c b i d e f g h a).fst,(xfc l j c b i d e f g h a).fst,(xfb l j c b i d e f g h a).fst,(xfa l j c b i d e f g h a).fst,(xe9 l j c b i d e f g h a).fst,(xe9 l j c b i d e f g h a).snd)) δ) δ) δ) δ) δ) δ) δ) δ) (κr (b,a))
def xbK (l j c:LA):StT (Nat×Int×List UInt8×LA×LA×LA×LA×LA) (Nat×LA):=fun (b,i,d,e,f,g,h,a)=>xfJ l j c b i d e f g h a none inL inR
def xme:=xyU.l 80 0 [] [(9,xdE.lp),(15,xfj.lp)] Tryz.f14 0 (lks (lkC xdE.ok (lkC xfj.ok lkN))) [1,2,5,6,7,8] [7] [(7,6,52)] (q6 (qL 3) (xPF 0 0 0 0) (qL 3) (qL 1) (xPE 1 0 0) qI) (q2 (qB 0 5 27 (q1 (xPG (q5 pStr (qL 3) (qL 1) (qL 2) (qL 7))))) (qB 0 6 52 xPv)) (fun (l,_,j,c,b,i,_) (((d,e,f,g,h,_),_),a,_)=>(xbK l j c,(b,i,d,e,f,g,h,a),fun p=>(.leaf (.exit 0) [AV.osl 0 0 0 p.1] [bF 0 6 52 p.2]))) (0,[]) fun (l,_,j,c,_,_,_) _ (b,i,d,e,f,g,h,a)=>(((l,(),j,c,b,i,()),(((d,e,f,g,h,()),()),a,())),xfJ l j c b i d e f g h a none)
def xkd (e:List UInt8) (b a c d l:LA):=Iter (xbK l ((xtl l).getD []) ((xlv l).getD [])) (0,0,e,b,a,c,d,[])
def xkc (e:List UInt8) (b a c d l:LA):=(xkd e b a c d l).getD (0,[])
def xka (e:List UInt8) (b a c d l:LA):=(xkc e b a c d l).snd
def xkb (e:List UInt8) (b a c d l:LA):=(xkc e b a c d l).fst
def xkx {T:Type} (e:List UInt8) (b a c d l:LA) (δ:T) (κ:LA->T):T:=br ((xtl l).isSome) (br ((xlv l).isSome) (br ((xkd e b a c d l).isSome) (br (decide (0+xkb e b a c d l<=(xka e b a c d l).length)&&true) (κ (List.take (xkb e b a c d l) (List.drop 0 (xka e b a c d l)))) δ) δ) δ) δ
def xcG (e:List UInt8) (b a c d l:LA):=xkx e b a c d l none some
def xLE:EO:=xyU.f Tryz.func14 80 0 [] [(9,xdE.lp),(15,xfj.lp),(5,xme.lp)] (lks (lkC xme.ok (lkC xdE.ok (lkC xfj.ok lkN)))) (u2 (xPJ (u5 (sEq pStr) (uL 3) (uL 1) (uL 2) (uL 7))) (uL 3)) (fun ((e,b,a,c,d,_),l,_) _=>xkx e b a c d l) (fun _ p=>AV.list 6 p) []
def xrj {T:Type} (e:List UInt8) (b a c d l:LA) (δ:T) (κ:Bool->T):T:=br ((xcG e b a c d l).isSome) (κ ((↑((xcG e b a c d l).getD []).length:Int)==0)) δ
def xqg (e:List UInt8) (b a c d l:LA):=xrj e b a c d l none some
def xHg:EO:=xLE.f Tryz.func11 10 0 [] [] lk0 (u2 (xPJ (u5 (sEq pStr) (uL 3) (uL 1) (uL 2) (uL 7))) (uL 3)) (fun ((e,b,a,c,d,_),l,_) _=>xrj e b a c d l) (fun _ p=>AV.bool p) false
def xbc (a:LA) (i:Int):=ixI a i
def xbd (b:LA) (i:Int):=ixI b i
def xd4 {T:Type} (a b:LA) (i:Int) (δ:T) (κl:(Int)->T) (κr:(Bool×(Bool)×(Unit))->T):T:=br (decide (i<a.length)) (br (xbc a i) (br (ixS a i (Sh.int .i64) 0) (br (xbd b i) (br (ixS b i (Sh.int .i64) 0) (br ((gC a i 0).toInt != (gC b i 0).toInt) (κr (true,(false),())) (br (xbc a i) (br (decide (i.toNat<a.length)&&xOI Sh.str (gC a i 1)) (br (xbd b i) (br (decide (i.toNat<b.length)&&xOI Sh.str (gC b i 1)) (br (!(gC a i 1).toStr==(gC b i 1).toStr) (κr (true,(false),())) (br (xbc a i) (br (ixS a i (Sh.int .i64) 2) (br (xbd b i) (br (ixS b i (Sh.int .i64) 2) (br ((gC a i 2).toInt != (gC b i 2).toInt) (κr (true,(false),())) (br (xbc a i) (br (ixT a i 6 [Sh.int .i64,Sh.int .i64] 4) (br (xbd b i) (br (ixT b i 6 [Sh.int .i64,Sh.int .i64] 4) (br (!((gC a i 4).toInt==(gC b i 4).toInt&&((gC a i 5).toInt==(gC b i 5).toInt&&true))) (κr (true,(false),())) (br (xbc a i) (br (ixS a i (Sh.list 3) 3) (br (xbd b i) (br (ixS b i (Sh.list 3) 3) (br ((xat (gC a i 3).toList (gC b i 3).toList).isSome) (br ((xat (gC a i 3).toList (gC b i 3).toList).getD 0 != 0) (κr (true,(false),())) (κl (i64.wrap (i+1)))) δ) δ) δ) δ) δ)) δ) δ) δ) δ)) δ) δ) δ) δ)) δ) δ) δ) δ)) δ) δ) δ) δ) (κr (false,false,()))
def xaK (a b:LA):StT (Int) (Bool×(Bool)×(Unit)):=fun (i)=>xd4 a b i none inL inR
def xjO:=xHg.l 81 0 [] [] Tryz.f12 0 lk0 [0,1,5] [4] [] (q3 (qL 6) (qL 6) qI) xPt (fun (a,b,i,_) _=>(xaK a b,(i),fun p=>(.node p.1 (.leaf .ret [AV.bool p.2.1] []) (.leaf (.exit 0) [.top] [])))) (false,false,()) fun (a,b,_,_) _ (i)=>(((a,b,i,()),()),xd4 a b i none)
def xhW {T:Type} (a b:LA) (δ:T) (κ:Bool->T):T:=br ((↑a.length:Int) != (↑b.length:Int)) (κ (false)) (br ((Iter (xaK a b) 0).isSome) (br (((Iter (xaK a b) 0).getD (false,false,())).fst) (κ (((Iter (xaK a b) 0).getD (false,false,())).snd.fst)) (κ (true))) δ)
def xgn (a b:LA):=xhW a b none some
def xLF:EO:=xHg.f Tryz.func12 81 0 [] [(4,xjO.lp)] (lk1 xjO.ok) (u2 (uL 6) (uL 6)) (fun (a,b,_) _=>xhW a b) (fun _ p=>AV.bool p) false
def xLc:EO:=xGM.w xDD
def xbf (r:LA) (e:List UInt8) (b a c d:LA):=(xhi ((xeg e b a c d r).getD [])).getD []
def xnH (r:LA) (f t:Int) (e:List UInt8) (b a c d g:LA):=decide ((xbf r e b a c d).length<=4611686018427387904)
def xe4 (r:LA) (f:List UInt8) (b a c d e:LA):=((e.getD (putIx e (xbf r f b a c d)) .top).cells.getD 1 .top).toList.length
def xrG (r:LA) (f t:Int) (g:List UInt8) (b a c d e:LA):=((e.getD (putIx e (xbf r g b a c d)) .top).cells.getD 1 .top).toList++[AV.agg [AV.int .i64 f,AV.int .i64 t,AV.int .i64 1]]
def xnI (r:LA) (f:List UInt8) (c a d e b:LA):=b.set (putIx b (xbf r f c a d e)) (AV.agg (List.take 1 (b.getD (putIx b (xbf r f c a d e)) .top).cells++[AV.int .i64 (↑(xe4 r f c a d e b):Int)]++List.drop 2 (b.getD (putIx b (xbf r f c a d e)) .top).cells))
def xle (r:LA) (e:List UInt8) (b a c d f:LA):=xe4 r e b a c d f+1
def xta {T:Type} (r:LA) (f t:Int) (g:List UInt8) (b a c d e:LA) (δ:T) (κ:LA->T):T:=br ((xeg g b a c d r).isSome) (br ((xhi ((xeg g b a c d r).getD [])).isSome) (br (xnH r f t g b a c d e) (br (xPd e (xbf r g b a c d)) (br (xPo 3 ((e.getD (putIx e (xbf r g b a c d)) .top).cells.getD 1 .top)) (br (decide (putIx e (xbf r g b a c d)<e.length)&&(xPo 3 ((e.getD (putIx e (xbf r g b a c d)) .top).cells.getD 1 .top)&&((e.getD (putIx e (xbf r g b a c d)) .top).cells.length==2&&(2*xe4 r g b a c d e==2*xe4 r g b a c d e&&(xe4 r g b a c d e==xe4 r g b a c d e&&(xe4 r g b a c d e==xe4 r g b a c d e&&(decide (xle r g b a c d e*24<=140737488355328)&&decide (xle r g b a c d e<=4611686018427387904)))))))) (br (xle r g b a c d e==(xrG r f t g b a c d e).length&&(decide ((xnI r g b a c d e).length<4611686018427387904)&&(xnH r f t g b a c d e&&deadR (xnI r g b a c d e) (xbf r g b a c d) (xle r g b a c d e)))) (κ (xOx (xnI r g b a c d e) (xbf r g b a c d) (AV.list 3 (xrG r f t g b a c d e)))) δ) δ) δ) (br (decide (e.length<4611686018427387904)&&(xnH r f t g b a c d e&&deadR e (xbf r g b a c d) 1)) (κ (xOx e (xbf r g b a c d) (AV.list 3 [AV.agg [AV.int .i64 f,AV.int .i64 t,AV.int .i64 1]]))) δ)) δ) δ) δ
def crowds1 (r:LA) (f t:Int) (e:List UInt8) (b a c d g:LA):=xta r f t e b a c d g none some
def xqk:EO:=xLc.fM Tryz.func52 20 1 [1000058,8000000] [] lk0 (u3 (xPJ (u3 (uL 3) uI uI)) (sEq (xPL 5 0 0 (q1 (xPG (q5 pStr (qL 3) (qL 1) (qL 2) (qL 7)))))) (sEq (xO6 (1099511627776:FuncId) (q1 (xPF 0 0 0 0))))) (q1 (qB 0 2 1208926202420975661744128 xPv)) (fun ((r,f,t,_),((e,b,a,c,d,_),_),(_,_),_) (g,_) _=>xta r f t e b a c d g) (fun _ _ p=>(AV.tuple [],([bF 0 2 1208926202420975661744128 p]:List Box))) []
end Go.Sim.M
