/- Part 13 of the proof of the law. -/
import Derived.Test.YtefdfdjimkinpaaGreatDoorTA12
import Derived.StillTailTactics
set_option linter.defProp false
set_option linter.unusedVariables false
set_option linter.unusedSimpArgs false
set_option maxRecDepth 100000
noncomputable section
namespace Go.Sim.M
def cmpI (x y:Int):Int:=if x<y then -1 else if y<x then 1 else 0
def orI (x y:Int):Int:=if x=0 then y else x
end Go.Sim.M
namespace Go.Proofs
open Go.RowKit Go.Sim Go.Sim.M Go.Sort Go.Lib
def Tryz.cmp_walk (x y:Int) (w:World):Calls Tryz.prog 57 #[.int .i64 x,.int .i64 y] w fun e w'=>e=.returned (.int .i64 (cmpI x y))/\w'=w:=by
 unfold cmpI
 go_enter Tryz.func57,Tryz.ntmps57
 go_wp2
 all_goals (go_ret;exact ⟨rfl,rfl⟩)
def Tryz.or_walk (x y:Int) (b off c:Nat) (w:World) (h0:w.cell? ⟨b,off,none⟩=some (.int .i64 x)) (h1:w.cell? ⟨b,off+1,none⟩=some (.int .i64 y)):Calls Tryz.prog 56 #[.slice (some ⟨b,off,none⟩) 2 c] w fun e w'=>e=.returned (.int .i64 (orI x y))/\w'=w:=by
 unfold orI;by_cases hx:x=0
 . subst hx;rw [if_pos rfl];by_cases hy:y=0
   . subst hy
     go_enter Tryz.func56,Tryz.ntmps56
     go_wp2
     refine wp_loop_rounds 3 ?_;rw [rounds_succ]
     go_wp2
     rw [rounds_succ]
     go_wp2
     rw [rounds_succ]
     go_wp2
     go_ret
     exact ⟨rfl,rfl⟩
   . have hy':(y != 0)=true:=by simpa using hy
     go_enter Tryz.func56,Tryz.ntmps56
     go_wp2
     refine wp_loop_rounds 3 ?_;rw [rounds_succ]
     go_wp2
     rw [rounds_succ]
     go_wp2
     go_ret
     exact ⟨rfl,rfl⟩
 . have hx':(x != 0)=true:=by simpa using hx
   rw [if_neg hx]
   go_enter Tryz.func56,Tryz.ntmps56
   go_wp2
   refine wp_loop_rounds 3 ?_;rw [rounds_succ]
   go_wp2
   go_ret
   exact ⟨rfl,rfl⟩
def fill2I (u1 u2:Int):Instr.fill (fun i=>some (i*1,1)) ((Array.range (2*1)).map (fun x=>(Value.int .i64 0).cells[x % (Value.int .i64 0).cells.size]!)) [(0,.int .i64 u1),(1,.int .i64 u2)]=some #[.int .i64 u1,.int .i64 u2]:=by
 simp [Instr.fill,Array.range,Value.cells];apply Array.ext
 . simp
 . intro i h1 h2;rcases i with _|_|i
   . simp
   . simp
   . simp at h2;omega
set_option maxHeartbeats 2000000 in
def Tryz.levels2_walk (a b c d:Int) (w:World):Calls Tryz.prog 55 #[.agg #[.int .i64 a,.int .i64 b],.agg #[.int .i64 c,.int .i64 d]] w fun e w'=>e=.returned (.int .i64 (orI (cmpI a c) (cmpI b d)))/\∃ q D,w'=Sort.grow (w.drewN q) D:=by
 go_enter Tryz.func55,Tryz.ntmps55
 go_wp2_with (go_at_call 57;skip)
 have g0:(w.alloc (.cells #[.int .i64 a,.int .i64 b] 32)).heap[w.heap.size]?=some (.cells #[.int .i64 a,.int .i64 b] 32 (0,0)):=heap_alloc_new w _;have g1:((w.alloc (.cells #[.int .i64 a,.int .i64 b] 32)).alloc (.cells #[.int .i64 c,.int .i64 d] 32)).heap[w.heap.size+1]?=some (.cells #[.int .i64 c,.int .i64 d] 32 (0,0)):=by
  have:=heap_alloc_new (w.alloc (.cells #[.int .i64 a,.int .i64 b] 32)) (.cells #[.int .i64 c,.int .i64 d] 32);have e:(w.alloc (.cells #[.int .i64 a,.int .i64 b] 32)).heap.size=w.heap.size+1:=by simp
  rwa [e] at this
 have f0:((w.alloc (.cells #[.int .i64 a,.int .i64 b] 32)).alloc (.cells #[.int .i64 c,.int .i64 d] 32)).cell? ⟨w.heap.size,0,none⟩=some (.int .i64 a):=by
  rw [World.cell?_alloc_past _ _ _ (by simp)];simp only [World.cell?,g0];rfl
 have f1:((w.alloc (.cells #[.int .i64 a,.int .i64 b] 32)).alloc (.cells #[.int .i64 c,.int .i64 d] 32)).cell? ⟨w.heap.size,1,none⟩=some (.int .i64 b):=by
  rw [World.cell?_alloc_past _ _ _ (by simp)];simp only [World.cell?,g0];rfl
 have f2:((w.alloc (.cells #[.int .i64 a,.int .i64 b] 32)).alloc (.cells #[.int .i64 c,.int .i64 d] 32)).cell? ⟨w.heap.size+1,0,none⟩=some (.int .i64 c):=by
  simp only [World.cell?,g1];rfl
 have f3:((w.alloc (.cells #[.int .i64 a,.int .i64 b] 32)).alloc (.cells #[.int .i64 c,.int .i64 d] 32)).cell? ⟨w.heap.size+1,1,none⟩=some (.int .i64 d):=by
  simp only [World.cell?,g1];rfl
 have f4:∃ q D,((w.alloc (.cells #[.int .i64 a,.int .i64 b] 32)).alloc (.cells #[.int .i64 c,.int .i64 d] 32))=Sort.grow (w.drewN q) D:=⟨0,_,by rw [alloc_eq_grow,alloc_eq_grow,grow_grow];rfl⟩
 generalize ((w.alloc (.cells #[.int .i64 a,.int .i64 b] 32)).alloc (.cells #[.int .i64 c,.int .i64 d] 32))=W2 at f0 f1 f2 f3 f4 |-;refine wp_region_still_tail 10 (by kernel_rfl) (by kernel_rfl) ?_
 simp only [List.take_succ_cons,List.take_zero,List.drop_succ_cons,List.drop_zero];change wpStill _ _ (World.drew W2) _ _ _;have f0':W2.drew.cell? ⟨w.heap.size,0,none⟩=some (.int .i64 a):=f0;have f1':W2.drew.cell? ⟨w.heap.size,1,none⟩=some (.int .i64 b):=f1;have f2':W2.drew.cell? ⟨w.heap.size+1,0,none⟩=some (.int .i64 c):=f2;have f3':W2.drew.cell? ⟨w.heap.size+1,1,none⟩=some (.int .i64 d):=f3;have f4':∃ q D,W2.drew=Sort.grow (w.drewN q) D:=by obtain ⟨q,D,e⟩:=f4;exact ⟨q+1,D,by rw [e];rfl⟩
 iterate 4 still_step
 still_call (Tryz.cmp_walk _ _ _)
 iterate 4 still_step
 still_call (Tryz.cmp_walk _ _ _)
 refine wpStill_nil ?_;change wpList _ _ _ _ _ (World.drew W2);generalize World.drew W2=W at f0' f1' f2' f3' f4' |-;generalize J:cmpI a c=u1;generalize O:cmpI b d=u2;obtain ⟨ie,q1,q2,q3⟩:∃ ie,Tryz.prog.info? 3=some ie/\ie.zero=some (.int .i64 0)/\ie.size=1:=⟨(Tryz.prog.info? 3).get (by kernel_rfl),(Option.some_get _).symm,by kernel_rfl,by kernel_rfl⟩
 refine wpList_buildSlice rfl 22 3 2 _ rfl #[.int .i64 u1,.int .i64 u2] ie (.int .i64 0) (by kernel_rfl) q1 q2 (by rw [q3];decide) (by rw [q3];decide) (by rw [q3];refine Eq.trans (congrArg _ ?_) (fill2I u1 u2);simp [Act.eval]) ?_
 simp only [Act.put]
 go_wp2_with fail
 have g2:(W.alloc (.cells #[.int .i64 u1,.int .i64 u2] 3)).heap[W.heap.size]?=some (.cells #[.int .i64 u1,.int .i64 u2] 3 (0,0)):=heap_alloc_new W _;refine (Tryz.or_walk u1 u2 W.heap.size 0 2 (W.alloc (.cells #[.int .i64 u1,.int .i64 u2] 3)) (by simp only [World.cell?,g2];rfl) (by simp only [World.cell?,g2];rfl)).mono ?_
 rintro e w' ⟨rfl,rfl⟩
 go_wp2
 go_ret
 obtain ⟨q,D,hq⟩:=f4';exact ⟨by rw [J,O];rfl,q,_,by rw [hq,alloc_eq_grow,grow_grow]⟩
end Go.Proofs
namespace Go.Sim.M
abbrev TyS:Type:=Fin 1099511627777×Int
def intsS (x:TyS):List Int:=[(x.1.val:Int),x.2]
def cmpS (x y:TyS):Int:=(x.1.val:Int) - (y.1.val:Int)
end Go.Sim.M
namespace Go.Proofs
open Go.RowKit Go.Sim Go.Sim.M Go.Sort
set_option maxHeartbeats 1000000 in
def Tryz.walkS (a b a' b' r:Int) (hr:IntKind.i64.wrap (a - a')=r) (W:World):Calls Tryz.prog 78 #[.agg #[.int .i64 a,.int .i64 b],.agg #[.int .i64 a',.int .i64 b']] W fun e w'=>e=.returned (.int .i64 r)/\∃ q os',w'=Sort.grow (W.drewN q) os':=by
 go_enter Tryz.func78,Tryz.ntmps78
 go_wp2
 go_ret
 subst hr;exact ⟨rfl,0,_,by rw [alloc_eq_grow,alloc_eq_grow,grow_grow];rfl⟩
end Go.Proofs
namespace Go.Sim.M
open Go.RowKit Go.Proofs Go.Sort
def isS:AV->Bool
 | .agg [.int .i64 a,.int .i64 _]=>decide (0<=a)&&decide (a<=1099511627776)
 | _=>false
def decS:AV->TyS
 | .agg [.int _ a,.int _ b]=>(Fin.ofNat 1099511627777 a.toNat,b)
 | _=>default
noncomputable def srtS (xs:List AV):List AV:=(pdqL cmpS (xs.map decS)).map (encI intsS)
def xBx {x:AV} (h:isS x=true):encI intsS (decS x)=x:=by
 unfold isS at h;split at h
 . rename_i a b;simp only [Bool.and_eq_true,decide_eq_true_eq] at h;have:a.toNat % 1099511627777=a.toNat:=Nat.mod_eq_of_lt (by omega)
   simp only [decS,encI,intsS,List.map_cons,List.map_nil,Fin.ofNat,this,Int.toNat_of_nonneg h.1]
 . simp at h
def xAE {xs:List AV} (h:xs.all isS=true):(xs.map decS).map (encI intsS)=xs:=by
 rw [List.map_map]
 conv=>rhs;rw [<-List.map_id xs]
 refine List.map_congr_left fun x hx=>?_
 exact xBx (List.all_eq_true.1 h x hx)
def ltS (x y:TyS):ltOf cmpS x y=decide (x.1.val<y.1.val):=by
 unfold ltOf cmpS;by_cases h:x.1.val<y.1.val
 . rw [decide_eq_true h,decide_eq_true (by omega)]
 . rw [decide_eq_false h,decide_eq_false (by omega)]
def swoS:SWO (ltOf cmpS) where
 irrefl x:=by rw [ltS];simp
 trans x y z h1 h2:=by rw [ltS] at *;simp at *;omega
 ntrans x y z h1 h2:=by rw [ltS] at *;simp at *;omega
noncomputable def xtD:List AV->List Box->Option (Bool×AV×List Box)
 | [.osl (.b 0) ver 0 n,.func g []],[⟨ver',2,ty,xs,false,true⟩]=>match Nat.beq g 78&&Nat.beq ty 102 with
  | true=>some (Nat.beq ver ver'&&(Nat.beq n xs.length&&(decide (n<4611686018427387904)&&xs.all isS)),.tuple [],[⟨ver',2,102,srtS xs,false,true⟩])
  | false=>none
 | _,_=>none
def xEl:OmOk Tryz.prog xIQ 77 xtD:=fun O H r H' h=>by
 unfold xtD at h;split at h
 . rename_i ver n g J ty xs;split at h
   case h_2=>simp at h
   rename_i hg;simp only [Bool.and_eq_true] at hg;obtain rfl:=Nat.eq_of_beq_eq_true hg.1;obtain rfl:=Nat.eq_of_beq_eq_true hg.2;simp only [Option.some.injEq,Prod.mk.injEq,Bool.and_eq_true,decide_eq_true_eq] at h;obtain ⟨⟨h1,h2,h3,h4⟩,rfl,rfl⟩:=h;obtain rfl:=Nat.eq_of_beq_eq_true h1;obtain rfl:=Nat.eq_of_beq_eq_true h2;have q:∃ ti,xH7 Tryz.prog 102=some ti/\ti.sz=2/\ti.agg=true:=by
    have h:(match xH7 Tryz.prog 102 with|some ti=>(ti.sz==2)&&ti.agg|none=>false)=true:=by kernel_rfl
    split at h
    . rename_i ti q;simp only [Bool.and_eq_true,beq_iff_eq] at h;exact ⟨ti,q,h.1,h.2⟩
    . simp at h
   obtain ⟨ti,q,hz,ha⟩:=q;have D:=xpE (P:=Tryz.prog) (Inv:=xIQ) Tryz.srl77 2 (by decide) (fun w=>by rw [<-ha];exact xj5 q w) (fun w=>by rw [<-hz];exact xcx q w)
    intsS (fun _=>rfl) cmpS swoS 78 rfl (xfb Tryz.func77 rfl (by kernel_rfl)) (xmX (xfb Tryz.func78 rfl (by kernel_rfl)))
    (fun x y W=>Tryz.walkS _ _ _ _ (cmpS x y) (by
     have:=x.1.isLt;have:=y.1.isLt;unfold cmpS;exact xaK (by omega) (by omega)) W)
    ver 102 rfl (xs.map decS) (by simpa using h3)
   rw [List.length_map,xAE h4] at D;exact D
 . simp at h
end Go.Sim.M
namespace Go.Sim.M
abbrev TyP:Type:=Int×Int
def intsP (x:TyP):List Int:=[x.1,x.2]
def cmpP (x y:TyP):Int:=orI (cmpI x.1 y.1) (cmpI x.2 y.2)
open Go.RowKit Go.Proofs Go.Sort
def isP:AV->Bool
 | .agg [.int .i64 _,.int .i64 _]=>true
 | _=>false
def decP:AV->TyP
 | .agg [.int _ a,.int _ b]=>(a,b)
 | _=>default
noncomputable def srtP (xs:List AV):List AV:=(pdqL cmpP (xs.map decP)).map (encI intsP)
def xBZ {x:AV} (h:isP x=true):encI intsP (decP x)=x:=by
 unfold isP at h;split at h
 . rfl
 . simp at h
def xAD {xs:List AV} (h:xs.all isP=true):(xs.map decP).map (encI intsP)=xs:=by
 rw [List.map_map]
 conv=>rhs;rw [<-List.map_id xs]
 refine List.map_congr_left fun x hx=>?_
 exact xBZ (List.all_eq_true.1 h x hx)
def ltP (x y:TyP):ltOf cmpP x y=decide (x.1<y.1\/x.1=y.1/\x.2<y.2):=by
 unfold ltOf cmpP orI cmpI;by_cases h:x.1<y.1\/x.1=y.1/\x.2<y.2
 . rw [decide_eq_true h];simp only [decide_eq_true_eq];rcases h with h|⟨h,h'⟩
   . simp [h]
   . simp [h,h']
 . rw [decide_eq_false h];simp only [decide_eq_false_iff_not];have h1:¬ x.1<y.1:=fun e=>h (.inl e)
   by_cases h2:y.1<x.1
   . simp [h1,h2]
   . have h3:x.1=y.1:=by omega
     have h4:¬ x.2<y.2:=fun e=>h (.inr ⟨h3,e⟩)
     by_cases h5:y.2<x.2
     . simp [h1,h2,h4,h5]
     . simp [h1,h2,h4,h5]
def swoP:SWO (ltOf cmpP) where
 irrefl x:=by rw [ltP];simp
 trans x y z h1 h2:=by rw [ltP] at *;simp only [decide_eq_true_eq] at *;omega
 ntrans x y z h1 h2:=by rw [ltP] at *;simp only [decide_eq_true_eq,decide_eq_false_iff_not] at *;omega
noncomputable def xtC:List AV->List Box->Option (Bool×AV×List Box)
 | [.osl (.b 0) ver 0 n,.func g []],[⟨ver',2,ty,xs,false,true⟩]=>match Nat.beq g 55&&Nat.beq ty 32 with
  | true=>some (Nat.beq ver ver'&&(Nat.beq n xs.length&&(decide (n<4611686018427387904)&&xs.all isP)),.tuple [],[⟨ver',2,32,srtP xs,false,true⟩])
  | false=>none
 | _,_=>none
def xEk:OmOk Tryz.prog xIQ 54 xtC:=fun O H r H' h=>by
 unfold xtC at h;split at h
 . rename_i ver n g J ty xs;split at h
   case h_2=>simp at h
   rename_i hg;simp only [Bool.and_eq_true] at hg;obtain rfl:=Nat.eq_of_beq_eq_true hg.1;obtain rfl:=Nat.eq_of_beq_eq_true hg.2;simp only [Option.some.injEq,Prod.mk.injEq,Bool.and_eq_true,decide_eq_true_eq] at h;obtain ⟨⟨h1,h2,h3,h4⟩,rfl,rfl⟩:=h;obtain rfl:=Nat.eq_of_beq_eq_true h1;obtain rfl:=Nat.eq_of_beq_eq_true h2;have q:∃ ti,xH7 Tryz.prog 32=some ti/\ti.sz=2/\ti.agg=true:=by
    have h:(match xH7 Tryz.prog 32 with|some ti=>(ti.sz==2)&&ti.agg|none=>false)=true:=by kernel_rfl
    split at h
    . rename_i ti q;simp only [Bool.and_eq_true,beq_iff_eq] at h;exact ⟨ti,q,h.1,h.2⟩
    . simp at h
   obtain ⟨ti,q,hz,ha⟩:=q;have D:=xpE (P:=Tryz.prog) (Inv:=xIQ) Tryz.srl54 2 (by decide) (fun w=>by rw [<-ha];exact xj5 q w) (fun w=>by rw [<-hz];exact xcx q w)
    intsP (fun _=>rfl) cmpP swoP 55 rfl (xfb Tryz.func54 rfl (by kernel_rfl)) (xmX (xfb Tryz.func55 rfl (by kernel_rfl)))
    (fun x y W=>Tryz.levels2_walk _ _ _ _ W)
    ver 32 rfl (xs.map decP) (by simpa using h3)
   rw [List.length_map,xAD h4] at D;exact D
 . simp at h
end Go.Sim.M
namespace Go.Sim.M
open Go.RowKit Go.Proofs
noncomputable def E1:Env:=(xC6.E.withM 77 xtD).withM 54 xtC
def xC3:xH8 Tryz.prog xIQ E1:=(xC6.ok.withM xEl).withM xEk
noncomputable def xGd:EO:=EO.mk E1 xC3
open Go.IntKind (i64 u64 u8)
def xgV:Env:=E1.fn 29 1 (lsOf []) (xIu [])
def xsx:xH8 P0 (xIQ.at 1) xgV:=xC3.fn
def xq5:LoOk P0 (xIQ.at xgV.pin) xgV (Tryz.f79.body.getD .skip):=xdY (by kernel_rfl)
def xfP {T:Type} (k:Nat) (a n:Int) (b:LA) (δ:T) (κ:Bool×(Nat×LA)×(Nat×LA)->T):T:=br (rmB k b 1 16) (κ (false,(0,[]),(k+1,b++[AV.agg [AV.int .i64 a,AV.int .i64 n]]))) δ
def xhB {T:Type} (k:Nat) (b n:Int) (a:LA) (δ:T) (κ:Bool×(Nat×LA)×(Nat×LA)->T):T:=br (decide ((↑k:Int)>0)) (br (decide (0<=i64.wrap ((↑k:Int) - 1))&&decide (i64.wrap ((↑k:Int) - 1)<(↑k:Int))) (br (decide (0+(i64.wrap ((↑k:Int) - 1)).toNat<a.length)&&xH6 (Sh.int .i64) ((a.getD (0+(i64.wrap ((↑k:Int) - 1)).toNat) .top).cells.getD 1 .top)) (br (((a.getD (0+(i64.wrap ((↑k:Int) - 1)).toNat) .top).cells.getD 1 .top).toInt==n) (κ (true,(k,a),(0,[]))) (xfP k b n a δ κ)) δ) δ) (xfP k b n a δ κ)
def xbc (k:Nat) (a n:Int) (b:LA):=xhB k a n b none some
def xwW (k:Nat) (a n:Int) (xs:LA):Enc (fun (p:Bool×(Nat×LA)×(Nat×LA))=>((br p.1 ((AV.osl 0 0 0 p.2.1.1,([⟨0,2,102,p.2.1.2,false,true⟩]:List Box))) ((AV.osl 0 1 0 p.2.2.1,([⟨1,2,102,p.2.2.2,false,true⟩]:List Box)))):(AV×List Box))) (xbc k a n xs) (XFM P0 xgV Tryz.f79 (Tryz.f79.body.getD .skip) [AV.osl (0:Id) 0 0 k,AV.int .i64 a,AV.int .i64 n] [{ ver:=0,sz:=2,ty:=(102:TypeId),xs:=xs,frz:=false,pm:=true }]):=by
 have h:XFM P0 xgV Tryz.f79 (Tryz.f79.body.getD .skip) [AV.osl (0:Id) 0 0 k,AV.int .i64 a,AV.int .i64 n] [{ ver:=0,sz:=2,ty:=(102:TypeId),xs:=xs,frz:=false,pm:=true }]=xhB k a n xs none (fun (p:Bool×(Nat×LA)×(Nat×LA))=>some ((br p.1 ((AV.osl 0 0 0 p.2.1.1,([⟨0,2,102,p.2.1.2,false,true⟩]:List Box))) ((AV.osl 0 1 0 p.2.2.1,([⟨1,2,102,p.2.2.2,false,true⟩]:List Box)))):(AV×List Box))):=by kernel_rfl
 rw [h];unfold xbc xhB xfP;repeat' (first|refine Enc.br ?_ ?_|exact Enc.none|exact Enc.some rfl)
def xwV:LA->List Box->Option (Bool×AV×List Box):=omOf (xIS (sEq (xI2 0 0 0)) (xIS (sEq (pInt .i64)) (xIS (sEq (pInt .i64)) xIU))) (xIR (xI5 0 2 (102:TypeId) false true xIV) xIT) fun (k,(a,(n,_))) (b,_)=>((xbc k a n b).isSome,(AV.osl 0 1 0 (br ((xbc k a n b).getD (false,(0,[]),(0,[]))).1 ((xbc k a n b).getD (false,(0,[]),(0,[]))).2.1.1 ((xbc k a n b).getD (false,(0,[]),(0,[]))).2.2.1),([⟨1,2,102,(br ((xbc k a n b).getD (false,(0,[]),(0,[]))).1 ((xbc k a n b).getD (false,(0,[]),(0,[]))).2.1.2 ((xbc k a n b).getD (false,(0,[]),(0,[]))).2.2.2),false,true⟩]:List Box)))
def xwU:OmOk P0 xIQ 79 (xwV):=xoI fun e f j i g=>by
 obtain ⟨k,⟨b,⟨n,_⟩⟩⟩:=e;obtain ⟨h,_⟩:=f;obtain ⟨c,a⟩:=Prod.mk.inj g;have hx:=xwW _ _ _ _ _ (xaE (d:=(false,(0,[]),(0,[]))) c);revert hx a;generalize ((xbc k b n h).getD (false,(0,[]),(0,[])))=p;intro a hx;obtain ⟨rfl,rfl⟩:=Prod.mk.inj a;obtain ⟨t,⟨l,m⟩,o,q⟩:=p;have hg:GoodM P0 xIQ 79 _ _ _ _:=xnR (p:=xgV.pin) (xnQ xIh (xIi P0 _) rfl xsx rfl Tryz.func79 rfl (by kernel_rfl) xq5 hx)
 cases t
 . exact hg
 . exact GoodM.bump1 rfl (by decide) hg
def xpU:EO:=xGd.wM xwU
def xjD {T:Type} (d:LA) (e:Int) (b:Nat) (c:Int) (a:LA) (δ:T) (κl:(Nat×Int×LA)->T) (κr:(Nat×LA)->T):T:=br (decide (c<e)) (br (ixI d c) (br (ixT d c 3 [Sh.int .i64,Sh.int .i64,Sh.int .i64] 0) (br (xaO (gC d c 0).toInt (gC d c 1).toInt) (br (rmB b a 2 16) (κl (b+2,i64.wrap (c+1),a++[AV.agg [AV.int .i64 (gC d c 0).toInt,AV.int .i64 (gC d c 2).toInt],AV.agg [AV.int .i64 (gC d c 1).toInt,AV.int .i64 (i64.wrap (0 - (gC d c 2).toInt))]])) δ) (κl (b,i64.wrap (c+1),a))) δ) δ) (κr (b,a))
def xd6 (c:LA) (d:Int):StT (Nat×Int×LA) (Nat×LA):=fun (b,e,a)=>xjD c d b e a none inL inR
def xgQ:=xpU.l 106 0 [] [] Tryz.f49 0 lk0 [3,10,11,12] [3] [(3,2,102)] (q4 (xI2 0 0 0) (qL 3) qI qI) (q1 (qB 0 2 102 xIV)) (fun (b,c,d,e,_) (a,_)=>(xd6 c d,(b,e,a),fun p=>(.leaf (.exit 0) [AV.osl 0 0 0 p.1] [bF 0 2 102 p.2]))) (0,[]) fun (_,c,d,_,_) _ (b,e,a)=>(((b,c,d,e,()),(a,())),xjD c d b e a none)
def xoP (i:Int) (a:LA):=decide (0+i.toNat<a.length)
def xpF {T:Type} (b e:Nat) (d i:Int) (a c:LA) (δ:T) (κl:(Int×Int×LA×LA)->T) (κr:(Int×Int×LA×LA)->T):T:=br (decide (i<(↑b:Int))) (br (decide (0<=i)&&decide (i<(↑b:Int))) (br (xoP i a&&xH6 (Sh.int .i64) ((a.getD (0+i.toNat) .top).cells.getD 0 .top)) (br (((a.getD (0+i.toNat) .top).cells.getD 0 .top).toInt==0) (br (decide (0<=i)&&decide (i<(↑b:Int))) (br (xoP i a&&xH6 (Sh.int .i64) ((a.getD (0+i.toNat) .top).cells.getD 1 .top)) (κl (i64.wrap (d+((a.getD (0+i.toNat) .top).cells.getD 1 .top).toInt),i64.wrap (i+1),a,c)) δ) δ) (κr (d,i,a,c))) δ) δ) (κr (d,i,a,c))
def xhb (b d:Nat):StT (Int×Int×LA×LA) (Int×Int×LA×LA):=fun (e,i,a,c)=>xpF b d e i a c none inL inR
def xiO:=xpU.l 106 0 [] [(3,xgQ.lp)] Tryz.f49 1 lk0 [3,6,7,8] [3,6,7,8] [(3,2,102),(6,2,102)] (q4 (xI2 0 0 0) (xI2 1 0 0) qI qI) (q2 (qB 0 2 102 xIV) (qB 0 2 102 xIV)) (fun (a,c,e,i,_) (b,d,_)=>(xhb a c,(e,i,b,d),fun p=>(.leaf (.exit 2) [AV.osl 0 0 0 a,AV.osl 1 0 0 c,AV.int .i64 p.1,AV.int .i64 p.2.1] [bF 0 2 102 p.2.2.1,bF 0 2 102 p.2.2.2]))) (0,0,[],[]) fun (a,c,_,_,_) _ (e,i,b,d)=>(((a,c,e,i,()),(b,d,())),xpF a c e i b d none)
def xgS (i:Int) (a:LA):=decide (0+i.toNat<a.length)
def xhp {T:Type} (b f:Nat) (e d i:Int) (a c:LA) (δ:T) (κl:(Int×Int×LA×LA)->T) (κr:(Int×Int×LA×LA)->T):T:=br (decide (i<(↑b:Int))) (br (decide (0<=i)&&decide (i<(↑b:Int))) (br (xgS i a&&xH6 (Sh.int .i64) ((a.getD (0+i.toNat) .top).cells.getD 0 .top)) (br (((a.getD (0+i.toNat) .top).cells.getD 0 .top).toInt==e) (br (decide (0<=i)&&decide (i<(↑b:Int))) (br (xgS i a&&xH6 (Sh.int .i64) ((a.getD (0+i.toNat) .top).cells.getD 1 .top)) (κl (i64.wrap (d+((a.getD (0+i.toNat) .top).cells.getD 1 .top).toInt),i64.wrap (i+1),a,c)) δ) δ) (κr (d,i,a,c))) δ) δ) (κr (d,i,a,c))
def xc0 (b d:Nat) (e:Int):StT (Int×Int×LA×LA) (Int×Int×LA×LA):=fun (f,i,a,c)=>xhp b d e f i a c none inL inR
def xiP:=xpU.l 106 0 [] [(3,xgQ.lp),(11,xiO.lp)] Tryz.f49 3 lk0 [3,6,7,8,9] [3,6,7,8,9] [(3,2,102),(6,2,102)] (q5 (xI2 0 0 0) (xI2 1 0 0) qI qI qI) (q2 (qB 0 2 102 xIV) (qB 0 2 102 xIV)) (fun (a,c,f,i,e,_) (b,d,_)=>(xc0 a c e,(f,i,b,d),fun p=>(.leaf (.exit 6) [AV.osl 0 0 0 a,AV.osl 1 0 0 c,AV.int .i64 p.1,AV.int .i64 p.2.1,AV.int .i64 e] [bF 0 2 102 p.2.2.1,bF 0 2 102 p.2.2.2]))) (0,0,[],[]) fun (a,c,_,_,e,_) _ (f,i,b,d)=>(((a,c,f,i,e,()),(b,d,())),xhp a c e f i b d none)
def xf9 (i:Int) (a:LA):=decide (0+i.toNat<a.length)&&xH6 (Sh.int .i64) ((a.getD (0+i.toNat) .top).cells.getD 0 .top)
def xeN (i:Int) (a:LA):=((a.getD (0+i.toNat) .top).cells.getD 0 .top).toInt
def xga (b d:Nat) (e i:Int) (a c:LA):=Iter (xc0 b d (xeN i a)) (e,i,a,c)
def xdf (b d:Nat) (e i:Int) (a c:LA):=(xga b d e i a c).getD (0,0,[],[])
def xgR (b c:Nat) (e i:Int) (a d:LA):=xbc c (xeN i a) ((xdf b c e i a d).fst) (((xdf b c e i a d).snd).snd).snd
def xcq (b d:Nat) (e i:Int) (a c:LA):=(xgR b d e i a c).getD (false,(0,[]),0,[])
def xho {T:Type} (b d:Nat) (e i:Int) (a c:LA) (δ:T) (κl:(Nat×Int×Int×LA×LA)->T) (κr:(Nat×LA)->T):T:=br (decide (i<(↑b:Int))) (br (decide (0<=i)&&decide (i<(↑b:Int))) (br (xf9 i a) (br (decide (xeN i a<1099511627776)) (br (decide (0<=i)&&decide (i<(↑b:Int))) (br (xf9 i a) (br ((xga b d e i a c).isSome) (br ((xgR b d e i a c).isSome) (κl (br ((xcq b d e i a c).fst) (((xcq b d e i a c).snd).fst).fst (((xcq b d e i a c).snd).snd).fst,((xdf b d e i a c).fst),((xdf b d e i a c).snd).fst,(((xdf b d e i a c).snd).snd).fst,br ((xcq b d e i a c).fst) (((xcq b d e i a c).snd).fst).snd (((xcq b d e i a c).snd).snd).snd)) δ) δ) δ) δ) (κr (d,c))) δ) δ) (κr (d,c))
def xd7 (b:Nat):StT (Nat×Int×Int×LA×LA) (Nat×LA):=fun (d,e,i,a,c)=>xho b d e i a c none inL inR
def xoQ:=xpU.l 106 0 [] [(3,xgQ.lp),(11,xiO.lp),(17,xiP.lp)] Tryz.f49 2 (lk1 xiP.ok) [3,6,7,8] [6] [(3,2,102),(6,2,102)] (q4 (xI2 0 0 0) (xI2 1 0 0) qI qI) (q2 (qB 0 2 102 xIV) (qB 0 2 102 xIV)) (fun (b,d,e,i,_) (a,c,_)=>(xd7 b,(d,e,i,a,c),fun p=>(.leaf (.exit 4) [AV.osl 0 0 0 p.1] [bF 0 2 102 p.2]))) (0,[]) fun (b,_,_,_,_) _ (d,e,i,a,c)=>(((b,d,e,i,()),(a,c,())),xho b d e i a c none)
def xeo (l:LA):=(Iter (xd6 l (↑l.length:Int)) (0,0,[])).getD (0,[])
def xnv (l:LA):=Iter (xhb ((xeo l).fst) 0) (0,0,srtS ((xeo l).snd),[])
def xgT (l:LA):=(xnv l).getD (0,0,[],[])
def xoq (l:LA):=xbc 0 0 ((xgT l).fst) (((xgT l).snd).snd).snd
def xgg (l:LA):=(xoq l).getD (false,(0,[]),0,[])
def xoo (l:LA):=Iter (xd7 ((xeo l).fst)) (br ((xgg l).fst) (((xgg l).snd).fst).fst (((xgg l).snd).snd).fst,((xgT l).fst),((xgT l).snd).fst,(((xgT l).snd).snd).fst,br ((xgg l).fst) (((xgg l).snd).fst).snd (((xgg l).snd).snd).snd)
def xji (l:LA):=(xoo l).getD (0,[])
def xpm {T:Type} (l:LA) (δ:T) (κ:LA->T):T:=br ((Iter (xd6 l (↑l.length:Int)) (0,0,[])).isSome) (br (((xeo l).fst).beq ((xeo l).snd).length&&(decide (((xeo l).fst)<4611686018427387904)&&((xeo l).snd).all isS)) (br ((xnv l).isSome) (br ((xoq l).isSome) (br ((xoo l).isSome) (br (decide (0+((xji l).fst)<=((xji l).snd).length)&&true) (κ (List.take ((xji l).fst) (List.drop 0 ((xji l).snd)))) δ) δ) δ) δ) δ) δ
def xaf (l:LA):=xpm l none some
def xzV:EO:=xpU.f Tryz.func49 106 0 [] [(3,xgQ.lp),(11,xiO.lp),(17,xiP.lp),(15,xoQ.lp)] (lks (lkC xgQ.ok (lkC xiO.ok (lkC xoQ.ok (lkC xiP.ok lkN))))) (u1 (uL 3)) (fun (l,_) _=>xpm l) (fun _ p=>AV.list 2 p) []
def xeB {T:Type} (d:LA) (e:Int) (c:Nat) (b:Int) (a:LA) (δ:T) (κl:(Nat×Int×LA)->T) (κr:(Nat×LA)->T):T:=br (decide (b<e)) (br (ixI d b) (br (ixT d b 2 [Sh.int .i64,Sh.int .i64] 0) (br (rmB c a 1 24) (κl (c+1,i64.wrap (b+1),a++[AV.agg [AV.int .i64 (gC d b 0).toInt,AV.int .i64 (gC d b 1).toInt,AV.int .i64 1]])) δ) δ) δ) (κr (c,a))
def xbw (c:LA) (d:Int):StT (Nat×Int×LA) (Nat×LA):=fun (b,e,a)=>xeB c d b e a none inL inR
def xi9:=xzV.l 20 0 [] [] Tryz.f35 0 lk0 [3,6,7,8] [3] [(3,3,107)] (q4 (xI2 0 0 0) (qL 2) qI qI) (q1 (qB 0 3 107 xIV)) (fun (b,c,d,e,_) (a,_)=>(xbw c d,(b,e,a),fun p=>(.leaf (.exit 0) [AV.osl 0 0 0 p.1] [bF 0 3 107 p.2]))) (0,[]) fun (_,c,d,_,_) _ (b,e,a)=>(((b,c,d,e,()),(a,())),xeB c d b e a none)
def xdM (l:LA):=(Iter (xbw l (↑l.length:Int)) (0,0,[])).getD (0,[])
def xhE (l:LA):=xaf (List.take ((xdM l).fst) (List.drop 0 ((xdM l).snd)))
def xhx {T:Type} (l:LA) (δ:T) (κ:LA->T):T:=br ((Iter (xbw l (↑l.length:Int)) (0,0,[])).isSome) (br (decide (0+((xdM l).fst)<=((xdM l).snd).length)&&true) (br ((xhE l).isSome) (κ ((xhE l).getD [])) δ) δ) δ
def xdR (l:LA):=xhx l none some
def xot:EO:=xzV.f Tryz.func35 20 0 [] [(3,xi9.lp)] (lk1 xi9.ok) (u1 (uL 2)) (fun (l,_) _=>xhx l) (fun _ p=>AV.list 2 p) []
def xhO {T:Type} (o n:Int) (e f:Nat) (k p m j:Int) (h l i g a:Nat) (b:LA) (d:Nat) (c:LA) (δ:T) (κl:(Int×Int×Nat×Nat×Nat×Nat×Nat×LA×Nat×LA)->T) (κr:(Int×Nat×Nat×Nat×Nat×LA×Nat×LA×Nat)->T):T:=br (decide (m<p)) (br (a==e) (br (a==e) (br (a==e&&(decide (f<b.length)&&xH6 (Sh.int .i64) ((b.getD f .top).cells.getD 0 .top))) (br (d==g&&(rmB i c 1 16)) (κl (i64.wrap (m+1),j,h,l,i+1,g+1,a,List.take h b,g+1,c++[AV.agg [AV.int .i64 ((b.getD f .top).cells.getD 0 .top).toInt,AV.int .i64 o]])) δ) δ) δ) δ) (κr (j,l,h,g,i,b,a,c,d))
def xb3 (m n:Int) (e f:Nat) (k o:Int):StT (Int×Int×Nat×Nat×Nat×Nat×Nat×LA×Nat×LA) (Int×Nat×Nat×Nat×Nat×LA×Nat×LA×Nat):=fun (p,g,h,i,j,l,a,b,c,d)=>xhO m n e f k o p g h i j l a b c d none inL inR
def xg3:=xot.l 71 5 [] [] Tryz.f53 1 lk0 [0,1,2,3,4,7,8,37,38] [0,1,2,3,4,7,8] [(3,0,0)] (q9 qI qI (xI3 0 0 0 0) (xI3 1 0 0 0) (xI3 2 0 0 0) (pOwnV 3 0) qI qI qI) (q5 (qB 0 1 3 (q1 qI)) (xI5 0 1 96 false false (q1 (pOslV 3 0))) (xI5 0 1 62 false false (q1 (pOslV 4 0))) (pBoxV 2 98 false true xIV) (pBoxV 2 32 false true xIV)) (fun (o,n,_,_,_,(e,f),k,q,r,_) ((g,_),((h,i),_),((j,m),_),(a,b),(c,d),_)=>(xb3 o n e f k q,(r,g,i,h,m,j,a,b,c,d),fun p=>(.leaf (.exit 2) [AV.int .i64 o,AV.int .i64 n,AV.own 0 0 0 0,AV.own 1 0 0 0,AV.own 2 0 0 0,AV.own 3 e f 0,AV.int .i64 k] [bF 0 1 3 [AV.int .i64 p.1],⟨0,1,96,[AV.osl 3 p.2.1 0 p.2.2.1],false,false⟩,⟨0,1,62,[AV.osl 4 p.2.2.2.1 0 p.2.2.2.2.1],false,false⟩,bF p.2.2.2.2.2.2.1 2 98 p.2.2.2.2.2.1,bF p.2.2.2.2.2.2.2.2 2 32 p.2.2.2.2.2.2.2.1]))) (0,0,0,0,0,[],0,[],0) fun (o,n,_,_,_,(e,f),k,q,_,_) _ (r,g,i,h,m,j,a,b,c,d)=>(((o,n,(),(),(),(e,f),k,q,r,()),((g,()),((h,i),()),((j,m),()),(a,b),(c,d),())),xhO o n e f k q r g i h m j a b c d none)
def xaA (a:Nat):Nat:=0+(i64.wrap ((↑a:Int) - 1)).toNat
def xcy (n b:Int) (c d:Nat) (a:LA):Int:=if i64.wrap (b - n)<((a.getD (xaA c) .top).cells.getD 1 .top).toInt then i64.wrap (b - n) else ((a.getD (xaA c) .top).cells.getD 1 .top).toInt
def xgo (j n d:Int) (c g h i a:Nat) (b:LA) (e:Nat) (f:LA):=Iter (xb3 j n g (xaA c) (xcy n d c a b) (xcy n d c a b)) (0,d,c,g,h,i,a,List.take c b,e,f)
def xab (j n e:Int) (f g h i a:Nat) (b:LA) (c:Nat) (d:LA):=(xgo j n e f g h i a b c d).getD (0,0,0,0,0,[],0,[],0)
def xdX (j n e:Int) (f g h i a:Nat) (b:LA) (c:Nat) (d:LA):=i64.wrap ((↑((((xab j n e f g h i a b c d).snd).snd).fst):Int) - 1)
def xb2 (j n f:Int) (g e h i a:Nat) (b:LA) (c:Nat) (d:LA):=(((((((xab j n f g e h i a b c d).snd).snd).snd).snd).snd).snd).fst==e
def xdW (j n f:Int) (e g h i a:Nat) (b:LA) (c:Nat) (d:LA):=((((((((xab j n f e g h i a b c d).snd).snd).snd).snd).snd).fst).getD (xaA e) .top).cells
def xcW (j n f:Int) (e g h i a:Nat) (b:LA) (c:Nat) (d:LA):=(((((((xab j n f e g h i a b c d).snd).snd).snd).snd).snd).fst).set (xaA e) (AV.agg (List.take 1 (xdW j n f e g h i a b c d)++[AV.int .i64 (i64.wrap (((xdW j n f e g h i a b c d).getD 1 .top).toInt - xcy n f e a b))]++List.drop 2 (xdW j n f e g h i a b c d)))
def xeD {T:Type} (j n g:Int) (f e h i a:Nat) (b:LA) (c:Nat) (d:LA) (δ:T) (κl:(Int×Nat×Nat×Nat×Nat×Nat×LA×Nat×LA)->T) (κr:(Int×Nat×Nat×Nat×Nat×LA×Nat×LA×Nat)->T):T:=br (decide (g>n)) (br (a==e) (br (a==e&&(decide (0<=i64.wrap ((↑f:Int) - 1))&&decide (i64.wrap ((↑f:Int) - 1)<(↑f:Int)))) (br (a==e) (br (a==e) (br (a==e&&(decide (xaA f<b.length)&&xH6 (Sh.int .i64) ((b.getD (xaA f) .top).cells.getD 1 .top))) (br ((xgo j n g f e h i a b c d).isSome) (br (xb2 j n g f e h i a b c d) (br (xb2 j n g f e h i a b c d) (br (xb2 j n g f e h i a b c d&&((decide (xaA f<(((((((xab j n g f e h i a b c d).snd).snd).snd).snd).snd).fst).length))&&xH6 (Sh.int .i64) ((xdW j n g f e h i a b c d).getD 1 .top))) (br (xb2 j n g f e h i a b c d) (br (xb2 j n g f e h i a b c d) (br (xb2 j n g f e h i a b c d&&(decide (xaA f<(((((((xab j n g f e h i a b c d).snd).snd).snd).snd).snd).fst).length))) (br (e==e) (br (e==e) (br (e==e&&(decide (xaA f<(xcW j n g f e h i a b c d).length)&&xH6 (Sh.int .i64) (((xcW j n g f e h i a b c d).getD (xaA f) .top).cells.getD 1 .top))) (br ((((xcW j n g f e h i a b c d).getD (xaA f) .top).cells.getD 1 .top).toInt==0) (br (e==(((xab j n g f e h i a b c d).snd).fst)) (br (e==(((xab j n g f e h i a b c d).snd).fst)&&(decide (0<=xdX j n g f e h i a b c d)&&decide (xdX j n g f e h i a b c d<=(↑((((xab j n g f e h i a b c d).snd).snd).fst):Int))&&true)) (κl (i64.wrap ((xab j n g f e h i a b c d).fst - xcy n g f a b),(xdX j n g f e h i a b c d).toNat - 0,(((xab j n g f e h i a b c d).snd).fst),(((((xab j n g f e h i a b c d).snd).snd).snd).snd).fst,((((xab j n g f e h i a b c d).snd).snd).snd).fst,e,List.take ((xdX j n g f e h i a b c d).toNat - 0) (xcW j n g f e h i a b c d),((((((((xab j n g f e h i a b c d).snd).snd).snd).snd).snd).snd).snd).snd,((((((((xab j n g f e h i a b c d).snd).snd).snd).snd).snd).snd).snd).fst)) δ) δ) (κl (i64.wrap ((xab j n g f e h i a b c d).fst - xcy n g f a b),((((xab j n g f e h i a b c d).snd).snd).fst),(((xab j n g f e h i a b c d).snd).fst),(((((xab j n g f e h i a b c d).snd).snd).snd).snd).fst,((((xab j n g f e h i a b c d).snd).snd).snd).fst,e,List.take ((((xab j n g f e h i a b c d).snd).snd).fst) (xcW j n g f e h i a b c d),((((((((xab j n g f e h i a b c d).snd).snd).snd).snd).snd).snd).snd).snd,((((((((xab j n g f e h i a b c d).snd).snd).snd).snd).snd).snd).snd).fst))) δ) δ) δ) δ) δ) δ) δ) δ) δ) δ) δ) δ) δ) δ) δ) (κr (g,e,f,i,h,b,a,d,c))
def xbH (j n:Int):StT (Int×Nat×Nat×Nat×Nat×Nat×LA×Nat×LA) (Int×Nat×Nat×Nat×Nat×LA×Nat×LA×Nat):=fun (e,f,g,h,i,a,b,c,d)=>xeD j n e f g h i a b c d none inL inR
def xm7:=xot.l 71 5 [] [(7,xg3.lp)] Tryz.f53 0 (lk1 xg3.ok) [0,1,2,3,4] [] [(3,0,0)] (q5 qI qI (xI3 0 0 0 0) (xI3 1 0 0 0) (xI3 2 0 0 0)) (q5 (qB 0 1 3 (q1 qI)) (xI5 0 1 96 false false (q1 (pOslV 3 0))) (xI5 0 1 62 false false (q1 (pOslV 4 0))) (pBoxV 2 98 false true xIV) (pBoxV 2 32 false true xIV)) (fun (j,n,_,_,_,_) ((e,_),((f,g),_),((h,i),_),(a,b),(c,d),_)=>(xbH j n,(e,g,f,i,h,a,b,c,d),fun p=>(.leaf (.exit 0) [] [bF 0 1 3 [AV.int .i64 p.1],⟨0,1,96,[AV.osl 3 p.2.1 0 p.2.2.1],false,false⟩,⟨0,1,62,[AV.osl 4 p.2.2.2.1 0 p.2.2.2.2.1],false,false⟩,bF p.2.2.2.2.2.2.1 2 98 p.2.2.2.2.2.1,bF p.2.2.2.2.2.2.2.2 2 32 p.2.2.2.2.2.2.2.1]))) (0,0,0,0,0,[],0,[],0) fun (j,n,_,_,_,_) _ (e,g,f,i,h,a,b,c,d)=>(((j,n,(),(),(),()),((e,()),((f,g),()),((h,i),()),(a,b),(c,d),())),xeD j n e g f i h a b c d none)
def xfM:Env:=xot.E.fn 71 5 (lsOf []) (xIu [(7,xg3.lp),(3,xm7.lp)])
def xrR:xH8 P0 (xIQ.at 5) xfM:=xot.ok.fn
def xqh:LoOk P0 (xIQ.at xfM.pin) xfM (Tryz.f53.body.getD .skip):=xgd (ls:=[xIc Tryz.f53 0,xIc Tryz.f53 1]) (by kernel_rfl) (lkC xm7.ok (lkC xg3.ok lkN))
def xiF (a n h:Int) (b c:Nat) (d e:LA):=Iter (xbH a n) (n,b+1,1,c,0,1,List.take (b+1) (d++[AV.agg [AV.int .i64 a,AV.int .i64 (i64.wrap (n - h))]]),0,e)
def xiG (a n h:Int) (b c:Nat) (d e:LA):=Iter (xbH a n) (h,b,0,c,0,0,List.take b d,0,e)
def xby (a n h:Int) (b c:Nat) (d e:LA):=(xiF a n h b c d e).getD (0,0,0,0,0,[],0,[],0)
def xbz (a n h:Int) (b c:Nat) (d e:LA):=(xiG a n h b c d e).getD (0,0,0,0,0,[],0,[],0)
def xie {T:Type} (a n h:Int) (b d:Nat) (c e:LA) (δ:T) (κ:Int×Nat×Nat×Nat×Nat×LA×Nat×LA×Nat->T):T:=br (decide (n>h)) (br (rmB b c 1 16) (br ((xiF a n h b d c e).isSome) (κ ((xby a n h b d c e).fst,((xby a n h b d c e).snd).fst,(((xby a n h b d c e).snd).snd).fst,((((xby a n h b d c e).snd).snd).snd).fst,(((((xby a n h b d c e).snd).snd).snd).snd).fst,((((((xby a n h b d c e).snd).snd).snd).snd).snd).fst,(((((((xby a n h b d c e).snd).snd).snd).snd).snd).snd).fst,((((((((xby a n h b d c e).snd).snd).snd).snd).snd).snd).snd).fst,((((((((xby a n h b d c e).snd).snd).snd).snd).snd).snd).snd).snd)) δ) δ) (br ((xiG a n h b d c e).isSome) (κ ((xbz a n h b d c e).fst,((xbz a n h b d c e).snd).fst,(((xbz a n h b d c e).snd).snd).fst,((((xbz a n h b d c e).snd).snd).snd).fst,(((((xbz a n h b d c e).snd).snd).snd).snd).fst,((((((xbz a n h b d c e).snd).snd).snd).snd).snd).fst,(((((((xbz a n h b d c e).snd).snd).snd).snd).snd).snd).fst,((((((((xbz a n h b d c e).snd).snd).snd).snd).snd).snd).snd).fst,((((((((xbz a n h b d c e).snd).snd).snd).snd).snd).snd).snd).snd)) δ)
def xiE (a n h:Int) (b c:Nat) (d e:LA):=xie a n h b c d e none some
def xvQ (a n h:Int) (b c:Nat) (d e:LA):Enc (fun (p:Int×Nat×Nat×Nat×Nat×LA×Nat×LA×Nat)=>(((AV.tuple [],([⟨0,1,3,[AV.int .i64 p.1],false,true⟩,⟨0,1,96,[AV.osl 3 p.2.1 0 p.2.2.1],false,false⟩,⟨0,1,62,[AV.osl 4 p.2.2.2.1 0 p.2.2.2.2.1],false,false⟩,⟨p.2.2.2.2.2.2.1,2,98,p.2.2.2.2.2.1,false,true⟩,⟨p.2.2.2.2.2.2.2.2,2,32,p.2.2.2.2.2.2.2.1,false,true⟩]:List Box))):(AV×List Box))) (xiE a n h b c d e) (XFM P0 xfM Tryz.f53 (Tryz.f53.body.getD .skip) [AV.int .i64 a,AV.int .i64 n,AV.own (0:Id) 0 0 0,AV.own (1:Id) 0 0 0,AV.own (2:Id) 0 0 0] [{ ver:=0,sz:=1,ty:=(3:TypeId),xs:=[AV.int .i64 h],frz:=false,pm:=true },{ ver:=0,sz:=1,ty:=(96:TypeId),xs:=[AV.osl (3:Id) 0 0 b],frz:=false,pm:=false },{ ver:=0,sz:=1,ty:=(62:TypeId),xs:=[AV.osl (4:Id) 0 0 c],frz:=false,pm:=false },{ ver:=0,sz:=2,ty:=(98:TypeId),xs:=d,frz:=false,pm:=true },{ ver:=0,sz:=2,ty:=(32:TypeId),xs:=e,frz:=false,pm:=true }]):=by
 have h:XFM P0 xfM Tryz.f53 (Tryz.f53.body.getD .skip) [AV.int .i64 a,AV.int .i64 n,AV.own (0:Id) 0 0 0,AV.own (1:Id) 0 0 0,AV.own (2:Id) 0 0 0] [{ ver:=0,sz:=1,ty:=(3:TypeId),xs:=[AV.int .i64 h],frz:=false,pm:=true },{ ver:=0,sz:=1,ty:=(96:TypeId),xs:=[AV.osl (3:Id) 0 0 b],frz:=false,pm:=false },{ ver:=0,sz:=1,ty:=(62:TypeId),xs:=[AV.osl (4:Id) 0 0 c],frz:=false,pm:=false },{ ver:=0,sz:=2,ty:=(98:TypeId),xs:=d,frz:=false,pm:=true },{ ver:=0,sz:=2,ty:=(32:TypeId),xs:=e,frz:=false,pm:=true }]=xie a n h b c d e none (fun (p:Int×Nat×Nat×Nat×Nat×LA×Nat×LA×Nat)=>some (((AV.tuple [],([⟨0,1,3,[AV.int .i64 p.1],false,true⟩,⟨0,1,96,[AV.osl 3 p.2.1 0 p.2.2.1],false,false⟩,⟨0,1,62,[AV.osl 4 p.2.2.2.1 0 p.2.2.2.2.1],false,false⟩,⟨p.2.2.2.2.2.2.1,2,98,p.2.2.2.2.2.1,false,true⟩,⟨p.2.2.2.2.2.2.2.2,2,32,p.2.2.2.2.2.2.2.1,false,true⟩]:List Box))):(AV×List Box))):=by kernel_rfl
 rw [h];unfold xiE xie;repeat' (first|refine Enc.br ?_ ?_|exact Enc.none|exact Enc.some rfl)
end Go.Sim.M
namespace Go.Sim
open Go.RowKit
def GoodM.aged {P:Program} {Inv:IV} {f:FuncId} {args:List AV} {H E:List Box} {p q v k t s y:Nat} {xs:List AV}
  (h:GoodM P Inv f args H (.tuple []) E) (hz:∀ bx,H[q]?=some bx->bx.ver=0)
  (ep:E[p]?=some ⟨0,1,t,[.osl (.b q) v 0 k],false,false⟩) (eq:E[q]?=some ⟨v,s,y,xs,false,true⟩) (pt:isC t=false) (py:isC y=false)
  (ho:∀ n bx,E[n]?=some bx->isC bx.ty=false/\(n=p\/n=q\/bx.pm=true\/∃ n' v' k',n'≠q/\bx.xs=[.osl (.b n') v' 0 k'])) :
  GoodM P Inv f args H (.tuple []) ((E.set p ⟨0,1,t,[.osl (.b q) 1 0 k],false,false⟩).set q ⟨1,s,y,xs,false,true⟩):=by
 have pq:p≠q:=fun e=>by
  subst e;rw [ep] at eq;simp at eq
 refine ⟨h.1,fun w0 w A M vs hI hB hR aa=>(h.2 w0 w A M vs hI hB hR aa).mono ?_⟩
 rintro e w' ⟨u,A',M',rfl,h1,h2,h3,h4,h5⟩;let M'':Id->Option MB:=fun id=>if id=.b q then (M' id).map fun m=>⟨m.b,1,m.sz,m.cap,m.ty⟩ else M' id
 have eo:∀ id,id≠.b q->M'' id=M' id:=fun id g1=>if_neg g1
 have e4:∀ m,M' (.b q)=some m->M'' (.b q)=some ⟨m.b,1,m.sz,m.cap,m.ty⟩:=fun m hm=>(if_pos rfl).trans (by rw [hm];rfl)
 have O:∀ id m1,M'' id=some m1->∃ m0,M' id=some m0/\m1.b=m0.b/\m1.cap=m0.cap:=fun id m1 D=>by
  by_cases g3:id=.b q
  . subst g3;cases hm:M' (.b q) with
    | none=>simp [M'',hm] at D
    | some m=>rw [e4 m hm] at D;simp only [z6] at D;subst D;exact ⟨m,rfl,rfl,rfl⟩
  . exact ⟨m1,eo id g3▸D,rfl,rfl⟩
 have J:∀ n bx m,E[n]?=some bx->M' (.b n)=some m->BoxAt w' A' M' w0.heap.size (.b n) m bx:=fun n bx m hn hm=>by
  obtain ⟨bx',g1,g2⟩:=h4.box _ m hm;rw [xbG,hn] at g1;cases g1;exact g2
 have hv:∀ m,M' (.b q)=some m->v=m.ver:=fun m hm=>(J q _ m eq hm).ver
 have hx:∀ c n' v' k',n'≠q->Rel w' A' M' c (.osl (.b n') v' 0 k')->Rel w' A' M'' c (.osl (.b n') v' 0 k'):=fun c n' v' k' hn hr=>by
  obtain ⟨m0,g1,g2,g3,g4⟩:=Rel.osl_inv hr;exact .osl c _ v' 0 k' m0 ((eo _ fun e=>hn (by cases e;rfl)).trans g1) g2 g3 g4
 have hy:∀ c,Rel w' A' M' c (.osl (.b q) v 0 k)->Rel w' A' M'' c (.osl (.b q) 1 0 k):=fun c hr=>by
  obtain ⟨m0,g1,g2,g3,g4⟩:=Rel.osl_inv hr;exact .osl c _ 1 0 k _ (e4 m0 g1) (zd _) g3 fun _=>g4 (hv m0 g1)
 have hb:∀ id (bx bx':Box) (m m':MB),isC bx.ty=false->bx'=⟨m'.ver,bx.sz,bx.ty,bx'.xs,bx.frz,bx.pm⟩->m'=⟨m.b,m'.ver,m.sz,m.cap,m.ty⟩->bx'.xs.length=bx.xs.length->(∀ x,x∈bx'.xs->x.okElem m.sz=true) ->
   (∀ c i j,Rel w' A' (MP M' bx.pm) c ((bx.xs.getD i .top).cells.getD j .top)->Rel w' A' (MP M'' bx.pm) c ((bx'.xs.getD i .top).cells.getD j .top))->BoxAt w' A' M' w0.heap.size id m bx->BoxAt w' A' M'' w0.heap.size id m' bx':=fun id bx bx' m m' Q ac W hl Z hc g=>by
  rw [ac,W];have V:xIa m.ty=false:=g.nomap (xaH Q);refine ⟨rfl,g.sz,g.ty,g.capm,hl▸g.fits,Z,g.low,g.lt,fun h0=>?_,g.guard⟩
  obtain ⟨c,c1,c2,c3⟩:=g.cells h0;refine ⟨c,.of V (c1.plain V),c2,fun i j hi hj=>?_⟩
  have:=c3 i j (hl▸hi) hj;rw [xar Q,xax Q] at this;rw [xar Q,xax (bx:=⟨m'.ver,bx.sz,bx.ty,bx'.xs,bx.frz,bx.pm⟩) Q];exact hc _ i j this
 have ht:∀ a v1 v2 d,(∀ c,Rel w' A' M' c (.osl a v1 0 d)->Rel w' A' M'' c (.osl a v2 0 d))->∀ c i j,Rel w' A' M' c ((([.osl a v1 0 d]:List AV).getD i .top).cells.getD j .top)->Rel w' A' M'' c ((([.osl a v2 0 d]:List AV).getD i .top).cells.getD j .top):=fun a v1 v2 d hh c i j hr=>by
  match i,j with
  | 0,0=>exact hh c hr
  | 0,j+1=>exact .top _
  | i+1,0=>exact .top _
  | i+1,j+1=>exact .top _
 have hg:∀ n bx,E[n]?=some bx->∃ bx',((E.set p ⟨0,1,t,[.osl (.b q) 1 0 k],false,false⟩).set q ⟨1,s,y,xs,false,true⟩)[n]?=some bx'/\isC bx'.ty=false/\(∀ m m1,M' (.b n)=some m->M'' (.b n)=some m1->BoxAt w' A' M'' w0.heap.size (.b n) m1 bx'):=fun n bx hn=>by
  have hn':=xcP hn;obtain ⟨hC,hc⟩:=ho n bx hn;by_cases g1:n=q
  . subst g1;rw [hn] at eq;cases eq;refine ⟨_,zM (by simpa using hn'),py,fun m m1 e1 e2=>?_⟩
    rw [e4 m e1] at e2;cases e2;have g:=J n _ m hn e1;exact hb _ ⟨v,s,y,xs,false,true⟩ ⟨1,s,y,xs,false,true⟩ m _ py rfl rfl rfl g.ok (fun c i j hr=>hr) g
  . have ge:∀ m m1,M' (.b n)=some m->M'' (.b n)=some m1->m1=m:=fun m m1 e1 e2=>by
     rw [eo _ fun e=>g1 (by cases e;rfl),e1] at e2;cases e2;rfl
    by_cases g2:n=p
    . subst g2;rw [hn] at ep;cases ep;refine ⟨_,(zY (Ne.symm g1)).trans (zM hn'),pt,fun m m1 e1 e2=>?_⟩
      cases ge m m1 e1 e2;have g:=J n _ m hn e1;have hv:0=m.ver:=g.ver;have hz:m.sz=1:=g.sz.symm;exact hb _ ⟨0,1,t,[.osl (.b q) v 0 k],false,false⟩ ⟨0,1,t,[.osl (.b q) 1 0 k],false,false⟩ m m pt (by rw [<-hv]) rfl rfl (fun x hx=>by simp only [zw] at hx;subst hx;rw [hz];rfl) (ht _ _ _ _ hy) g
    . refine ⟨bx,(zY (Ne.symm g1)).trans ((zY (Ne.symm g2)).trans hn),hC,fun m m1 e1 e2=>?_⟩
      cases ge m m1 e1 e2;have g:=J n _ m hn e1;refine hb _ bx bx m m hC (by rw [<-g.ver]) rfl rfl g.ok ?_ g
      rcases hc with hc|hc|hc|⟨n',v',k',hc,hd⟩
      . exact absurd hc g2
      . exact absurd hc g1
      . rw [hc];exact fun c i j hr=>hr
      . cases ad:bx.pm with
        | true=>exact fun c i j hr=>hr
        | false=>rw [hd];exact ht _ _ _ _ fun c=>hx c n' v' k' hc
 have hR':HR w' A' M'' w0.heap.size ((E.set p ⟨0,1,t,[.osl (.b q) 1 0 k],false,false⟩).set q ⟨1,s,y,xs,false,true⟩):=by
  refine ⟨fun id m1 D=>?_,fun id id' m1 m2 k1 k2 c1 c2 he=>?_,h4.lt⟩
  . obtain ⟨m0,g1,_⟩:=O id m1 D;obtain ⟨bx,q1,q2⟩:=h4.box _ m0 g1;cases id with
    | r n i j =>
     rw [eo _ (fun e=>by cases e),g1] at D
     cases D;obtain ⟨c0,r1,_⟩:=xlZ q1;obtain ⟨bx',r2,r3,_⟩:=hg n c0 r1;rw [xei r1 (ho n c0 r1).1] at q1;cases q1;exact ⟨_,xei r2 r3,hb _ tombB tombB m1 m1 rfl (by rw [<-q2.ver]) rfl rfl q2.ok (fun c i j hr=>hr) q2⟩
    | b n =>
     obtain ⟨bx',r2,_,r3⟩:=hg n bx q1;exact ⟨bx',r2,r3 _ _ g1 D⟩
  . obtain ⟨n1,a1,a2,a3⟩:=O id m1 k1;obtain ⟨n2,b1,b2,b3⟩:=O id' m2 k2;exact h4.inj id id' n1 n2 a1 b1 (a3▸c1) (b3▸c2) (by rw [<-a2,<-b2,he])
 refine ⟨u,A',M'',rfl,h1,h2,⟨h3.size,h3.keep,h3.less,h3.more,fun id m ab hm=>?_,fun id m1 D h0=>?_⟩,hR',?_⟩
 . obtain ⟨m',g1,g2⟩:=h3.ids id m ab hm;by_cases q4:id=.b q
   . subst q4;obtain ⟨bx,r1,r2⟩:=hR.box _ m hm;exact ⟨_,e4 m' g1,.inr (by rw [<-r2.ver,hz bx r1];exact Nat.zero_lt_one)⟩
   . exact ⟨m',(eo id q4).trans g1,g2⟩
 . obtain ⟨m0,g1,g2,g3⟩:=O id m1 D;rw [g2];exact h3.src id m0 g1 (g3▸h0)
 . obtain ⟨Y,rfl,q1,_⟩:=h5.tuple_inv;exact .tuple Y [] q1 (by simp)
namespace M
open Go.Proofs
noncomputable def set2 (q n h:Int) (ns no:Nat) (sx ox:List AV):Option (Int×Nat×Nat×List AV×List AV):=(xiE q n h ns no sx ox).bind fun p =>
 br (Nat.beq p.2.1 p.2.2.2.2.2.2.1&&Nat.beq p.2.2.2.1 p.2.2.2.2.2.2.2.2) (some (p.1,p.2.2.1,p.2.2.2.2.1,p.2.2.2.2.2.1,p.2.2.2.2.2.2.2.1)) none
noncomputable def xBq:List AV->List Box->Option (Bool×AV×List Box):=omOf (xIS (sEq (pInt IntKind.i64)) (xIS (sEq (pInt IntKind.i64)) (xIS (sEq (xI3 0 0 0 0)) (xIS (sEq (xI3 1 0 0 0)) (xIS (sEq (xI3 2 0 0 0)) xIU)))))
 (xIR (xI5 0 1 3 false true (xIR (pInt IntKind.i64) xIT)) (xIR (xI5 0 1 96 false false (xIR (xI2 3 0 0) xIT)) (xIR (xI5 0 1 62 false false (xIR (xI2 4 0 0) xIT)) (xIR (xI5 0 2 98 false true xIV) (xIR (xI5 0 2 32 false true xIV) xIT)))))
 fun (q,(n,(_,(_,(_,_))))) ((h,_),((ns,_),((no,_),(sx,(ox,_)))))=>((set2 q n h ns no sx ox).isSome,(.tuple [],[⟨0,1,3,[.int .i64 ((set2 q n h ns no sx ox).getD (0,0,0,[],[])).1],false,true⟩,⟨0,1,96,[.osl (.b 3) 1 0 ((set2 q n h ns no sx ox).getD (0,0,0,[],[])).2.1],false,false⟩,⟨0,1,62,[.osl (.b 4) 1 0 ((set2 q n h ns no sx ox).getD (0,0,0,[],[])).2.2.1],false,false⟩,⟨1,2,98,((set2 q n h ns no sx ox).getD (0,0,0,[],[])).2.2.2.1,false,true⟩,⟨1,2,32,((set2 q n h ns no sx ox).getD (0,0,0,[],[])).2.2.2.2,false,true⟩]))
def xF2:OmOk P0 xIQ 53 xBq:=xoI fun vv bb rr Y hh=>by
 obtain ⟨D,⟨n,⟨_,⟨_,⟨_,_⟩⟩⟩⟩⟩:=vv;obtain ⟨⟨h,_⟩,⟨⟨ns,_⟩,⟨⟨no,_⟩,⟨sx,⟨ox,_⟩⟩⟩⟩⟩:=bb;obtain ⟨J,O⟩:=Prod.mk.inj hh;cases hs:xiE D n h ns no sx ox with
 | none=>rw [show set2 D n h ns no sx ox=none by unfold set2;rw [hs];rfl] at J;simp at J
 | some p =>
  have V:set2 D n h ns no sx ox=br (Nat.beq p.2.1 p.2.2.2.2.2.2.1&&Nat.beq p.2.2.2.1 p.2.2.2.2.2.2.2.2) (some (p.1,p.2.2.1,p.2.2.2.2.1,p.2.2.2.2.2.1,p.2.2.2.2.2.2.2.1)) none:=by unfold set2;rw [hs];rfl
  cases ht:Nat.beq p.2.1 p.2.2.2.2.2.2.1&&Nat.beq p.2.2.2.1 p.2.2.2.2.2.2.2.2 with
  | false=>rw [V,ht] at J;simp [br] at J
  | true =>
   rw [ht] at V;have W:set2 D n h ns no sx ox=some (p.1,p.2.2.1,p.2.2.2.2.1,p.2.2.2.2.2.1,p.2.2.2.2.2.2.2.1):=V;rw [W] at O;simp only [zi] at O;simp only [zg] at ht;have e1:=zh ht.1;have e2:=zh ht.2;have hx:=xvQ D n h ns no sx ox p hs;have hg:GoodM P0 xIQ 53 _ _ _ _:=xnR (p:=xfM.pin) (xnQ xIh (xIi P0 _) rfl xrR rfl Tryz.func53 rfl (by kernel_rfl) xqh hx)
   rw [<-e1,<-e2] at hg;have Q:=GoodM.aged (p:=1) (q:=3) hg (fun bx hb=>by cases hb;rfl) rfl rfl rfl rfl (fun n bx hn=>by
    match n with
    | 0=>cases hn;exact ⟨rfl,.inr (.inr (.inl rfl))⟩
    | 1=>cases hn;exact ⟨rfl,.inl rfl⟩
    | 2=>cases hn;exact ⟨rfl,.inr (.inr (.inr ⟨_,_,_,by decide,rfl⟩))⟩
    | 3=>cases hn;exact ⟨rfl,.inr (.inl rfl)⟩
    | 4=>cases hn;exact ⟨rfl,.inr (.inr (.inl rfl))⟩
    | n+5=>simp at hn)
   have Q:=GoodM.aged (p:=2) (q:=4) Q (fun bx hb=>by cases hb;rfl) rfl rfl rfl rfl (fun n bx hn=>by
    match n with
    | 0=>cases hn;exact ⟨rfl,.inr (.inr (.inl rfl))⟩
    | 1=>cases hn;exact ⟨rfl,.inr (.inr (.inr ⟨_,_,_,by decide,rfl⟩))⟩
    | 2=>cases hn;exact ⟨rfl,.inl rfl⟩
    | 3=>cases hn;exact ⟨rfl,.inr (.inr (.inl rfl))⟩
    | 4=>cases hn;exact ⟨rfl,.inr (.inl rfl)⟩
    | n+5=>simp at hn)
   obtain ⟨rfl,rfl⟩:=Prod.mk.inj O;exact Q
noncomputable def ESet:Env:=xot.E.withM 53 xBq
def xDq:xH8 P0 xIQ ESet:=xot.ok.withM xF2
noncomputable def xw9:EO:=EO.mk ESet xDq
end M
end Go.Sim
namespace Go.Sim.M
open Go.RowKit Go.Proofs
open Go.IntKind (i64 u64 u8)
def xiu (a:LA) (h b:Int) (f c:Nat) (g:Int) (d e:LA):Int:=if 0>(gC a b 1).toInt then 0 else (gC a b 1).toInt
def xit (f:LA) (h g:Int) (d a:Nat) (e:Int) (b c:LA):=set2 (gC f g 0).toInt (if 1048576<xiu f h g d a e b c then 1048576 else xiu f h g d a e b c) e a d c b
def xb9 (f:LA) (g h:Int) (d a:Nat) (e:Int) (b c:LA):=(xit f g h d a e b c).getD (0,0,0,[],[])
def xgs {T:Type} (g:LA) (h e:Int) (d a:Nat) (f:Int) (b c:LA) (δ:T) (κl:(Int×Nat×Nat×Int×LA×LA)->T) (κr:(Nat×Int×Nat×LA×LA)->T):T:=br (decide (e<h)) (br (ixI g e) (br (ixT g e 2 [Sh.int .i64,Sh.int .i64] 0) (br ((xit g h e d a f b c).isSome) (κl (i64.wrap (e+1),(((xb9 g h e d a f b c).snd).snd).fst,(((xb9 g h e d a f b c).snd).fst),(xb9 g h e d a f b c).fst,((((xb9 g h e d a f b c).snd).snd).snd).snd,List.take (((xb9 g h e d a f b c).snd).fst) ((((xb9 g h e d a f b c).snd).snd).snd).fst)) δ) δ) δ) (κr (d,f,a,b,c))
def xcp (f:LA) (g:Int):StT (Int×Nat×Nat×Int×LA×LA) (Nat×Int×Nat×LA×LA):=fun (h,d,a,e,b,c)=>xgs f g h d a e b c none inL inR
def xl3:=xw9.l 30 0 [] [] Tryz.f34 0 lk0 [3,4,6,10,11,12] [3,6] [(3,2,32),(4,2,98),(4,0,0)] (q6 (xI3 0 0 0 0) (xI3 1 0 0 0) (xIv 53 (q3 (xI3 2 0 0 0) (xI3 1 0 0 0) (xI3 0 0 0 0))) (qL 2) qI qI) (q5 (xI5 0 1 62 false false (q1 (xI2 3 0 0))) (xI5 0 1 96 false false (q1 (xI2 4 0 0))) (qB 0 1 3 (q1 qI)) (qB 0 2 32 xIV) (qB 0 2 98 xIV)) (fun (_,_,(_,_,_,_),f,g,h,_) ((d,_),(a,_),(e,_),b,c,_)=>(xcp f g,(h,d,a,e,b,c),fun p=>(.leaf (.exit 0) [AV.own 0 0 0 0,AV.func 53 [AV.own 1 0 0 0,AV.own 2 0 0 0,AV.own 0 0 0 0]] [⟨0,1,62,[AV.osl 3 0 0 p.1],false,false⟩,bF 0 1 3 [AV.int .i64 p.2.1],⟨0,1,96,[AV.osl 4 0 0 p.2.2.1],false,false⟩,bF 0 2 32 p.2.2.2.1,bF 0 2 98 p.2.2.2.2]))) (0,0,0,[],[]) fun (_,_,(_,_,_,_),f,g,_,_) _ (h,d,a,e,b,c)=>((((),(),((),(),(),()),f,g,h,()),((d,()),(a,()),(e,()),b,c,())),xgs f g h d a e b c none)
def xk6 (l:LA):=Iter (xcp l (↑l.length:Int)) (0,0,0,0,[],[])
def xeM (l:LA):=(xk6 l).getD (0,0,0,[],[])
def xk5 (l:LA):=set2 1099511627776 0 ((xeM l).snd).fst (((xeM l).snd).snd).fst (xeM l).fst ((((xeM l).snd).snd).snd).snd ((((xeM l).snd).snd).snd).fst
def xbW (l:LA):=((xk5 l).getD (0,0,0,[],[])).snd.snd
def xlB {T:Type} (l:LA) (δ:T) (κ:LA->T):T:=br ((xk6 l).isSome) (br ((xk5 l).isSome) (br (((xbW l).fst).beq ((xbW l).snd.snd).length&&(decide (((xbW l).fst)<4611686018427387904)&&((xbW l).snd.snd).all isP)) (br (decide (0+((xbW l).fst)<=(srtP ((xbW l).snd.snd)).length)&&true) (κ (List.take ((xbW l).fst) (List.drop 0 (srtP ((xbW l).snd.snd))))) δ) δ) δ) δ
def xas (l:LA):=xlB l none some
def xEA:EO:=xw9.f Tryz.func34 30 0 [] [(6,xl3.lp)] (lk1 xl3.ok) (u1 (uL 2)) (fun (l,_) _=>xlB l) (fun _ p=>AV.list 2 p) []
def xkc {T:Type} (a:LA) (δ:T) (κ:LA->T):T:=br ((↑a.length:Int)==1) (κ (a)) (br ((xdR a).isSome) (br ((xas ((xdR a).getD [])).isSome) (κ ((xas ((xdR a).getD [])).getD [])) δ) δ)
def xeO (a:LA):=xkc a none some
def xu4:EO:=xEA.f Tryz.func33 10 0 [] [] lk0 (u1 (uL 2)) (fun (a,_) _=>xkc a) (fun _ p=>AV.list 2 p) []
def xeA {T:Type} (h:LA) (i j:Int) (e:LA) (f:Int) (d:Nat) (c:Int) (a b g:LA) (δ:T) (κl:(Nat×Int×LA×LA×LA)->T) (κr:(Nat×LA)->T):T:=br (decide (c<f)) (br (ixI e c) (br (ixT e c 2 [Sh.int .i64,Sh.int .i64] 0) (br (decide (b.length*32<=140737488355328)&&decide (b.length<=4611686018427387904)) (br (decide (0+b.length<=b.length)&&true&&true&&true&&true) (br (rmB d a 1 40) (κl (d+1,i64.wrap (c+1),a++[AV.agg [AV.list 3 (List.take b.length (List.drop 0 b)),AV.int .i64 (gC e c 0).toInt,AV.int .i64 (gC e c 1).toInt]],b,g)) δ) δ) δ) δ) δ) (κr (d,a))
def xbv (c:LA) (d e:Int) (f:LA) (g:Int):StT (Nat×Int×LA×LA×LA) (Nat×LA):=fun (b,h,a,i,j)=>xeA c d e f g b h a i j none inL inR
def xd9:=xu4.l 38 0 [51] [] Tryz.f32 1 lk0 [1,5,7,11,12,13,20,21,22] [1,5,11,12,13] [(5,3,51)] (q9 (xIv 33 xIT) (xI2 0 0 0) (xI3 1 0 0 0) (qL 2) qI qI (qL 2) qI qI) (q2 (qB 0 3 51 xIV) (qB 0 2 95 (q1 (xI4 (q2 (qL 3) (qL 2)))))) (fun (_,b,_,c,d,e,f,g,h,_) (a,((i,j,_),_),_)=>(xbv c d e f g,(b,h,a,i,j),fun p=>(.leaf (.exit 2) [AV.func 33 [],AV.osl 0 0 0 p.1,AV.list 2 c,AV.int .i64 d,AV.int .i64 e] [bF 0 3 51 p.2]))) (0,[]) fun (_,_,_,c,d,e,f,g,_,_) _ (b,h,a,i,j)=>((((),b,(),c,d,e,f,g,h,()),(a,((i,j,()),()),())),xeA c d e f g b h a i j none)
def xd8 (a:LA) (e:Int) (d:Nat) (b:Int) (c:LA):=Iter (xbv a e b ((xeO (gC a b 1).toList).getD []) (↑((xeO (gC a b 1).toList).getD []).length:Int)) (d,0,c,(gC a b 0).toList,(gC a b 1).toList)
def xez {T:Type} (d:LA) (e:Int) (c:Nat) (b:Int) (a:LA) (δ:T) (κl:(Nat×Int×LA)->T) (κr:(Nat×LA)->T):T:=br (decide (b<e)) (br (ixI d b) (br (ixT d b 2 [Sh.list 3,Sh.list 2] 0) (br ((xeO (gC d b 1).toList).isSome) (br ((xd8 d e c b a).isSome) (κl (((xd8 d e c b a).getD (0,[])).fst,i64.wrap (b+1),((xd8 d e c b a).getD (0,[])).snd)) δ) δ) δ) δ) (κr (c,a))
def xbx (c:LA) (d:Int):StT (Nat×Int×LA) (Nat×LA):=fun (b,e,a)=>xez c d b e a none inL inR
def xi8:=xu4.l 38 0 [51] [(6,xd9.lp)] Tryz.f32 0 (lk1 xd9.ok) [1,5,11,12,13] [5] [(5,3,51)] (q5 (xIv 33 xIT) (xI2 0 0 0) (qL 2) qI qI) (q1 (qB 0 3 51 xIV)) (fun (_,b,c,d,e,_) (a,_)=>(xbx c d,(b,e,a),fun p=>(.leaf (.exit 0) [AV.osl 0 0 0 p.1] [bF 0 3 51 p.2]))) (0,[]) fun (_,_,c,d,_,_) _ (b,e,a)=>((((),b,c,d,e,()),(a,())),xez c d b e a none)
def xhD (l:LA):=Iter (xbx ((xhd l).getD []) (↑((xhd l).getD []).length:Int)) (0,0,[])
def xdL (l:LA):=(xhD l).getD (0,[])
def xhZ {T:Type} (l:LA) (δ:T) (κ:LA->T):T:=br ((xhd l).isSome) (br ((xhD l).isSome) (br (decide (0+((xdL l).fst)<=((xdL l).snd).length)&&true) (κ (List.take ((xdL l).fst) (List.drop 0 ((xdL l).snd)))) δ) δ) δ
def xjG (l:LA):=xhZ l none some
def xEB:EO:=xu4.f Tryz.func32 38 0 [51] [(6,xd9.lp),(3,xi8.lp)] (lks (lkC xi8.ok (lkC xd9.ok lkN))) (u2 (uL 3) (sEq (xIv (33:FuncId) xIT))) (fun (l,_,_) _=>xhZ l) (fun _ p=>AV.list 3 p) []
def xlm {T:Type} (l:LA) (δ:T) (κ:LA->T):T:=br ((xjG l).isSome) (κ ((xjG l).getD [])) δ
def xak (l:LA):=xlm l none some
def xEC:EO:=xEB.f Tryz.func14 5 0 [] [] lk0 (u1 (uL 3)) (fun (l,_) _=>xlm l) (fun _ p=>AV.list 3 p) []
def xk8 (a b:Int):Int:=((a))
def xwe {T:Type} (a b:Int) (δ:T) (κ:Int->T):T:=κ (a)
def xzS:EO:=xEC.fT Tryz.func81 5 0 [] [] lk0 (fun ((a,b,_),_)=>xwe a b none) (u1 (xI7 (u2 uI uI))) (fun ((a,b,_),_)=>xk8 a b) (fun _ p=>(AV.int .i64 p))
def xmw (b:Nat) (a:LA):=decide (0+(i64.wrap ((↑b:Int) - 1)).toNat<a.length)&&xH6 (Sh.int .i64) ((a.getD (0+(i64.wrap ((↑b:Int) - 1)).toNat) .top).cells.getD 0 .top)
def xmy (a:Nat):=decide (0<=i64.wrap ((↑a:Int) - 1))&&decide (i64.wrap ((↑a:Int) - 1)<(↑a:Int))
def xgt (b:LA) (k:Int):=decide (k.toNat<b.length)&&((b.getD k.toNat .top).cells.length==2&&xId [Sh.int .i64,Sh.int .i64] (b.getD k.toNat .top).cells 0)
def xgu (a:LA) (i:Int):=decide (i.toNat<a.length)&&((a.getD i.toNat .top).cells.length==2&&xId [Sh.int .i64,Sh.int .i64] (a.getD i.toNat .top).cells 0)
def xgv (b:LA) (k:Int):=ixI b k
def xgw (a:LA) (i:Int):=ixI a i
def xmz (a:Nat):=(↑a:Int)==0
def xeu (b:LA) (k:Int):=xk8 (gC b k 0).toInt (gC b k 1).toInt
def xev (a:LA) (i:Int):=xk8 (gC a i 0).toInt (gC a i 1).toInt
def xi4 (a:LA) (c:Nat) (i:Int) (b:LA):=((b.getD (0+(i64.wrap ((↑c:Int) - 1)).toNat) .top).cells.getD 0 .top).toInt != xev a i
def xi5 (b:LA) (c:Nat) (k:Int) (a:LA):=((a.getD (0+(i64.wrap ((↑c:Int) - 1)).toNat) .top).cells.getD 0 .top).toInt != xeu b k
def xeX (a b:LA) (i k:Int):=decide (xev a i<=xeu b k)
def xes {T:Type} (a:LA) (c:Nat) (i k:Int) (b:LA) (δ:T) (κl:(Nat×Int×Int×LA)->T):T:=br (rmB c b 1 8) (κl (c+1,i64.wrap (i+1),k,b++[AV.int .i64 (xev a i)])) δ
def xeq {T:Type} (a:LA) (b:Nat) (i k:Int) (c:LA) (δ:T) (κl:(Nat×Int×Int×LA)->T):T:=br (xgw a i) (br (xgu a i) (br (xmz b) (xes a b i k c δ κl) (br (xmy b) (br (xmw b c) (br (xi4 a b i c) (xes a b i k c δ κl) (κl (b,i64.wrap (i+1),k,c))) δ) δ)) δ) δ
def xet {T:Type} (b:LA) (c:Nat) (i k:Int) (a:LA) (δ:T) (κl:(Nat×Int×Int×LA)->T):T:=br (rmB c a 1 8) (κl (c+1,i,i64.wrap (k+1),a++[AV.int .i64 (xeu b k)])) δ
def xer {T:Type} (b:LA) (a:Nat) (i k:Int) (c:LA) (δ:T) (κl:(Nat×Int×Int×LA)->T):T:=br (xgv b k) (br (xgt b k) (br (xmz a) (xet b a i k c δ κl) (br (xmy a) (br (xmw a c) (br (xi5 b a k c) (xet b a i k c δ κl) (κl (a,i,i64.wrap (k+1),c))) δ) δ)) δ) δ
def xep {T:Type} (a b:LA) (d:Nat) (i k:Int) (c:LA) (δ:T) (κl:(Nat×Int×Int×LA)->T):T:=br (k==(↑b.length:Int)) (xeq a d i k c δ κl) (br (decide (i<a.length)) (br (xgw a i) (br (xgu a i) (br (xgv b k) (br (xgt b k) (br (xeX a b i k) (xeq a d i k c δ κl) (xer b d i k c δ κl)) δ) δ) δ) δ) (xer b d i k c δ κl))
def xfA {T:Type} (a b:LA) (d:Nat) (i k:Int) (c:LA) (δ:T) (κl:(Nat×Int×Int×LA)->T) (κr:(Nat×LA)->T):T:=br (decide (i<a.length)) (xep a b d i k c δ κl) (br (decide (k<b.length)) (xep a b d i k c δ κl) (κr (d,c)))
def xa9 (a b:LA):StT (Nat×Int×Int×LA) (Nat×LA):=fun (d,i,k,c)=>xfA a b d i k c none inL inR
def xmv:=xzS.l 83 0 [] [] Tryz.f80 0 lk0 [0,1,2,3,9,10,11] [9] [(9,1,3)] (q7 (qL 2) (qL 2) (xIv 81 xIT) (xIv 81 xIT) (xI2 0 0 0) qI qI) (q1 (qB 0 1 3 xIV)) (fun (a,b,_,_,d,i,k,_) (c,_)=>(xa9 a b,(d,i,k,c),fun p=>(.leaf (.exit 0) [AV.osl 0 0 0 p.1] [bF 0 1 3 p.2]))) (0,[]) fun (a,b,_,_,_,_,_,_) _ (d,i,k,c)=>(((a,b,(),(),d,i,k,()),(c,())),xfA a b d i k c none)
def xfk (a b:LA):=Iter (xa9 a b) (0,0,0,[])
def xmm {T:Type} (a b:LA) (δ:T) (κ:LA->T):T:=br ((xfk a b).isSome) (br (decide (0+(((xfk a b).getD (0,[])).fst)<=(((xfk a b).getD (0,[])).snd).length)&&true) (κ (List.take (((xfk a b).getD (0,[])).fst) (List.drop 0 (((xfk a b).getD (0,[])).snd)))) δ) δ
def xhA (a b:LA):=xmm a b none some
def xEu:EO:=xzS.f Tryz.func80 83 0 [] [(3,xmv.lp)] (lk1 xmv.ok) (u4 (uL 2) (uL 2) (sEq (xIv (81:FuncId) xIT)) (sEq (xIv (81:FuncId) xIT))) (fun (a,b,_,_,_) _=>xmm a b) (fun _ p=>AV.list 1 p) []
def xgh (a b t:Int):Int:=((xcb a t))
def xuZ {T:Type} (a b t:Int) (δ:T) (κ:Int->T):T:=κ (xcb a t)
def xzT:EO:=xEu.fT Tryz.func142 9 0 [] [] lk0 (fun ((a,b,_),t,_)=>xuZ a b t none) (u2 (xI7 (u2 uI uI)) uI) (fun ((a,b,_),t,_)=>xgh a b t) (fun _ p=>(AV.int .i64 p))
def xav (i j:Int):=i64.wrap ((u64.wrap (i64.wrap (i+j))).fdiv 2)
def xaY (x:LA) (i j:Int):=(x.getD (xav i j).toNat .top).cells
def xa4 {T:Type} (x:LA) (a n i j:Int) (δ:T) (κl:(Int×Int)->T) (κr:(Int)->T):T:=br (decide (i<j)) (br (decide (0<=xav i j)&&decide (xav i j<x.length)) (br (decide ((xav i j).toNat<x.length)&&((xaY x i j).length==2&&xId [Sh.int .i64,Sh.int .i64] (xaY x i j) 0)) (br (decide (xgh ((xaY x i j).getD 0 .top).toInt ((xaY x i j).getD 1 .top).toInt a<0)) (κl (i64.wrap (xav i j+1),j)) (κl (i,xav i j))) δ) δ) (κr (i))
def xaj (x:LA) (a n:Int):StT (Int×Int) (Int):=fun (i,j)=>xa4 x a n i j none inL inR
def xgk:=xzT.l 49 0 [] [] Tryz.f141 0 lk0 [0,1,2,8,9,10] [0,1,2,8,9] [] (q6 (qL 2) qI (xIv 142 xIT) qI qI qI) xIT (fun (x,a,_,n,i,j,_) _=>(xaj x a n,(i,j),fun p=>(.leaf (.exit 0) [AV.list 2 x,AV.int .i64 a,AV.func 142 [],AV.int .i64 n,AV.int .i64 p] []))) 0 fun (x,a,_,n,_,_,_) _ (i,j)=>(((x,a,(),n,i,j,()),()),xa4 x a n i j none)
def xay (l:LA) (t:Int):=(Iter (xaj l t (↑l.length:Int)) (0,(↑l.length:Int))).getD 0
def xbj (l:LA) (t:Int):=(l.getD (xay l t).toNat .top).cells
def xdj {T:Type} (l:LA) (t:Int) (δ:T) (κ:Int×Bool->T):T:=br ((Iter (xaj l t (↑l.length:Int)) (0,(↑l.length:Int))).isSome) (br (decide (xay l t<l.length)) (br (decide (0<=xay l t)&&decide (xay l t<l.length)) (br (decide ((xay l t).toNat<l.length)&&((xbj l t).length==2&&xId [Sh.int .i64,Sh.int .i64] (xbj l t) 0)) (κ (xay l t,xgh ((xbj l t).getD 0 .top).toInt ((xbj l t).getD 1 .top).toInt t==0)) δ) δ) (κ (xay l t,false))) δ
def xbK (l:LA) (t:Int):=xdj l t none some
def xEv:EO:=xzT.f Tryz.func141 49 0 [] [(3,xgk.lp)] (lk1 xgk.ok) (u3 (uL 2) uI (sEq (xIv (142:FuncId) xIT))) (fun (l,t,_,_) _=>xdj l t) (fun _ p=>AV.tuple [AV.int .i64 p.1,AV.bool p.2]) (0,false)
def xk7 {T:Type} (l:LA) (t:Int) (δ:T) (κ:Int->T):T:=br ((xbK l t).isSome) (br (((xbK l t).getD (0,false)).snd) (κ (((xbK l t).getD (0,false)).fst)) (κ (i64.wrap (((xbK l t).getD (0,false)).fst - 1)))) δ
def xdy (l:LA) (t:Int):=xk7 l t none some
def xEw:EO:=xEv.f Tryz.func112 17 0 [] [] lk0 (u2 (uL 2) uI) (fun (l,t,_) _=>xk7 l t) (fun _ p=>AV.int .i64 p) 0
def xmO {T:Type} (l:LA) (t:Int) (δ:T) (κ:Int->T):T:=br (decide (t<0)) (κ (0)) (br (decide (t>=1099511627776)) (κ (0)) (br ((xdy l t).isSome) (br (decide ((xdy l t).getD 0<0)) (κ (0)) (br (decide (0<=(xdy l t).getD 0)&&decide ((xdy l t).getD 0<(↑l.length:Int))) (br (decide (((xdy l t).getD 0).toNat<l.length)&&xH6 (Sh.int .i64) ((l.getD ((xdy l t).getD 0).toNat .top).cells.getD 1 .top)) (κ (((l.getD ((xdy l t).getD 0).toNat .top).cells.getD 1 .top).toInt)) δ) δ)) δ))
def xha (l:LA) (t:Int):=xmO l t none some
def xEy:EO:=xEw.f Tryz.func82 22 0 [] [] lk0 (u2 (uL 2) uI) (fun (l,t,_) _=>xmO l t) (fun _ p=>AV.int .i64 p) 0
def xk4 (x y:Int):Int:=((i64.wrap (x+y)))
def xwd {T:Type} (x y:Int) (δ:T) (κ:Int->T):T:=κ (i64.wrap (x+y))
def xzU:EO:=xEy.fT Tryz.func51 8 0 [] [] lk0 (fun (x,y,_)=>xwd x y none) (u2 uI uI) (fun (x,y,_)=>xk4 x y) (fun _ p=>(AV.int .i64 p))
def xgU (a b c:LA) (f:Nat) (d:Int) (e:LA):=xbc f (gC c d 0).toInt (xk4 ((xha a (gC c d 0).toInt).getD 0) ((xha b (gC c d 0).toInt).getD 0)) e
def xbC (a b e:LA) (d:Nat) (f:Int) (c:LA):=(xgU a b e d f c).getD (false,(0,[]),0,[])
def xe7 {T:Type} (a b f:LA) (g:Int) (d:Nat) (e:Int) (c:LA) (δ:T) (κl:(Nat×Int×LA)->T) (κr:(Nat×LA)->T):T:=br (decide (e<g)) (br (ixI f e) (br (ixS f e (Sh.int .i64) 0) (br ((xha a (gC f e 0).toInt).isSome) (br ((xha b (gC f e 0).toInt).isSome) (br ((xgU a b f d e c).isSome) (κl (br ((xbC a b f d e c).fst) (((xbC a b f d e c).snd).fst).fst (((xbC a b f d e c).snd).snd).fst,i64.wrap (e+1),br ((xbC a b f d e c).fst) (((xbC a b f d e c).snd).fst).snd (((xbC a b f d e c).snd).snd).snd)) δ) δ) δ) δ) δ) (κr (d,c))
def xbM (a b e:LA) (f:Int):StT (Nat×Int×LA) (Nat×LA):=fun (d,g,c)=>xe7 a b e f d g c none inL inR
def xj7:=xzU.l 38 0 [] [] Tryz.f50 0 lk0 [0,1,2,7,12,13,14] [2,7] [(7,2,102)] (q7 (qL 2) (qL 2) (xIv 51 xIT) (xI2 0 0 0) (qL 1) qI qI) (q1 (qB 0 2 102 xIV)) (fun (a,b,_,d,e,f,g,_) (c,_)=>(xbM a b e f,(d,g,c),fun p=>(.leaf (.exit 0) [AV.func 51 [],AV.osl 0 0 0 p.1] [bF 0 2 102 p.2]))) (0,[]) fun (a,b,_,_,e,f,_,_) _ (d,g,c)=>(((a,b,(),d,e,f,g,()),(c,())),xe7 a b e f d g c none)
def xiv (a b:LA):=Iter (xbM a b ((xhA a b).getD []) (↑((xhA a b).getD []).length:Int)) (0,0,[])
def xdg (a b:LA):=(xiv a b).getD (0,[])
def xi3 {T:Type} (a b:LA) (δ:T) (κ:LA->T):T:=br ((xhA a b).isSome) (br ((xiv a b).isSome) (br ((↑((xdg a b).fst):Int)==0) (κ ([AV.agg [AV.int .i64 0,AV.int .i64 0]])) (br (decide (0+((xdg a b).fst)<=((xdg a b).snd).length)&&true) (κ (List.take ((xdg a b).fst) (List.drop 0 ((xdg a b).snd)))) δ)) δ) δ
def xhV (a b:LA):=xi3 a b none some
def xEz:EO:=xzU.f Tryz.func50 38 0 [] [(3,xj7.lp)] (lk1 xj7.ok) (u3 (uL 2) (uL 2) (sEq (xIv (51:FuncId) xIT))) (fun (a,b,_,_) _=>xi3 a b) (fun _ p=>AV.list 2 p) []
def xon {T:Type} (a b:LA) (δ:T) (κ:LA->T):T:=br ((xhV a b).isSome) (κ ((xhV a b).getD [])) δ
def xl2 (a b:LA):=xon a b none some
def xu3:EO:=xEz.f Tryz.func31 8 0 [] [] lk0 (u2 (uL 2) (uL 2)) (fun (a,b,_) _=>xon a b) (fun _ p=>AV.list 2 p) []
def xf5 (b a:Bool):Int:=(br (b) (((-1))) (br (a) ((1)) ((0))))
def xv4 {T:Type} (b a:Bool) (δ:T) (κ:Int->T):T:=br (b) (κ ((-1))) (br (a) (κ (1)) (κ (0)))
def xED:EO:=xu3.fT Tryz.func74 7 0 [] [] lk0 (fun (b,a,_)=>xv4 b a none) (u2 (sEq pBool) (sEq pBool)) (fun (b,a,_)=>xf5 b a) (fun _ p=>(AV.int .i64 p))
def xhl (a b:Int) (c:List UInt8) (d e:Int) (f:List UInt8):Int:=(br (a != d) ((xf5 (decide (a<d)) (decide (a>d)))) (br (b != e) ((xf5 (decide (b<e)) (decide (b>e)))) ((xf5 (Op.bytesLess c f) !(Op.bytesLess c f || c==f)))))
def xsO {T:Type} (a b:Int) (c:List UInt8) (d e:Int) (f:List UInt8) (δ:T) (κ:Int->T):T:=br (a != d) (κ (xf5 (decide (a<d)) (decide (a>d)))) (br (b != e) (κ (xf5 (decide (b<e)) (decide (b>e)))) (κ (xf5 (Op.bytesLess c f) !(Op.bytesLess c f || c==f))))
def xzW:EO:=xED.fT Tryz.func47 48 0 [] [] lk0 (fun ((a,b,c,_),(d,e,f,_),_)=>xsO a b c d e f none) (u2 (xI7 (u3 uI uI (sEq pStr))) (xI7 (u3 uI uI (sEq pStr)))) (fun ((a,b,c,_),(d,e,f,_),_)=>xhl a b c d e f) (fun _ p=>(AV.int .i64 p))
def xcM (a b:LA) (i:Int):=xhl (gC a i 0).toInt (gC a i 1).toInt (gC a i 2).toStr (gC b i 0).toInt (gC b i 1).toInt (gC b i 2).toStr
def xc8 {T:Type} (a b:LA) (i:Int) (δ:T) (κl:(Int)->T) (κr:(Bool×(Int)×(Unit))->T):T:=br (decide (i<a.length)) (br (decide (i<b.length)) (br (ixI a i) (br (ixT a i 3 [Sh.int .i64,Sh.int .i64,Sh.str] 0) (br (ixI b i) (br (ixT b i 3 [Sh.int .i64,Sh.int .i64,Sh.str] 0) (br (xcM a b i != 0) (κr (true,(xcM a b i),())) (κl (i64.wrap (i+1)))) δ) δ) δ) δ) (κr (false,0,()))) (κr (false,0,()))
def xaV (a b:LA):StT (Int) (Bool×(Int)×(Unit)):=fun (i)=>xc8 a b i none inL inR
def xll:=xzW.l 41 0 [] [] Tryz.f29 0 lk0 [0,1,5] [0,1,4] [] (q3 (qL 3) (qL 3) qI) xIT (fun (a,b,i,_) _=>(xaV a b,(i),fun p=>(.node p.1 (.leaf .ret [AV.list 3 a,AV.list 3 b,AV.int .i64 p.2.1] []) (.leaf (.exit 0) [AV.list 3 a,AV.list 3 b,.top] [])))) (false,0,()) fun (a,b,_,_) _ (i)=>(((a,b,i,()),()),xc8 a b i none)
def xkV {T:Type} (a b:LA) (δ:T) (κ:Int->T):T:=br ((Iter (xaV a b) 0).isSome) (br (((Iter (xaV a b) 0).getD (false,0,())).fst) (κ (((Iter (xaV a b) 0).getD (false,0,())).snd.fst)) (br (decide ((↑a.length:Int)<(↑b.length:Int))) (κ ((-1))) (br (decide ((↑a.length:Int)>(↑b.length:Int))) (κ (1)) (κ (0))))) δ
def xjz (a b:LA):=xkV a b none some
def xzX:EO:=xzW.f Tryz.func29 41 0 [] [(2,xll.lp)] (lk1 xll.ok) (u2 (uL 3) (uL 3)) (fun (a,b,_) _=>xkV a b) (fun _ p=>AV.int .i64 p) 0
def xe2 {T:Type} (a b:LA) (i:Int) (δ:T) (κl:(Int)->T) (κr:(Bool×(Bool)×(Unit))->T):T:=br (decide (i<a.length)) (br (ixI a i) (br (ixT a i 3 [Sh.int .i64,Sh.int .i64] 1) (br (ixI b i) (br (ixT b i 3 [Sh.int .i64,Sh.int .i64] 1) (br (!((gC a i 1).toInt==(gC b i 1).toInt&&((gC a i 2).toInt==(gC b i 2).toInt&&true))) (κr (true,(false),())) (br (ixI a i) (br (ixS a i (Sh.list 3) 0) (br (ixI b i) (br (ixS b i (Sh.list 3) 0) (br ((xjz (gC a i 0).toList (gC b i 0).toList).isSome) (br ((xjz (gC a i 0).toList (gC b i 0).toList).getD 0 != 0) (κr (true,(false),())) (κl (i64.wrap (i+1)))) δ) δ) δ) δ) δ)) δ) δ) δ) δ) (κr (false,false,()))
def xbh (a b:LA):StT (Int) (Bool×(Bool)×(Unit)):=fun (i)=>xe2 a b i none inL inR
def xj3:=xzX.l 42 0 [] [] Tryz.f12 0 lk0 [0,1,5] [4] [] (q3 (qL 3) (qL 3) qI) xIT (fun (a,b,i,_) _=>(xbh a b,(i),fun p=>(.node p.1 (.leaf .ret [AV.bool p.2.1] []) (.leaf (.exit 0) [.top] [])))) (false,false,()) fun (a,b,_,_) _ (i)=>(((a,b,i,()),()),xe2 a b i none)
def xi2 {T:Type} (a b:LA) (δ:T) (κ:Bool->T):T:=br ((↑a.length:Int) != (↑b.length:Int)) (κ (false)) (br ((Iter (xbh a b) 0).isSome) (br (((Iter (xbh a b) 0).getD (false,false,())).fst) (κ (((Iter (xbh a b) 0).getD (false,false,())).snd.fst)) (κ (true))) δ)
def xeF (a b:LA):=xi2 a b none some
def xEE:EO:=xzX.f Tryz.func12 42 0 [] [(4,xj3.lp)] (lk1 xj3.ok) (u2 (uL 3) (uL 3)) (fun (a,b,_) _=>xi2 a b) (fun _ p=>AV.bool p) false
def xjh (a b:Int):Bool:=(br (decide (a>=0)) (br (decide (a<b)) ((decide (b<=1099511627776))) ((false))) ((false)))
def xuQ {T:Type} (a b:Int) (δ:T) (κ:Bool->T):T:=br (decide (a>=0)) (br (decide (a<b)) (κ (decide (b<=1099511627776))) (κ (false))) (κ (false))
def xEF:EO:=xEE.fT Tryz.func9 18 0 [] [] lk0 (fun ((a,b,_),_)=>xuQ a b none) (u1 (xI7 (u2 uI uI))) (fun ((a,b,_),_)=>xjh a b) (fun _ p=>(AV.bool p))
def xzA:Int×Int×List UInt8:=((0,0,[]))
def xv3 {T:Type} (δ:T) (κ:Int×Int×List UInt8->T):T:=κ (0,0,[])
def xzY:EO:=xEF.fT Tryz.func104 2 0 [] [] lk0 (fun _=>xv3 none) xIU (fun _=>xzA) (fun _ p=>(AV.agg [AV.int .i64 p.1,AV.int .i64 p.2.1,AV.str p.2.2]))
def xck {T:Type} (a:List UInt8) (i:Int) (δ:T) (κl:(Int)->T) (κr:(Bool×(Bool)×(Unit))->T):T:=br (decide (i<a.length)) (br (decide (0<=i)&&decide (i<a.length)) (br (decide ((↑(a.getD i.toNat (0:UInt8)).toNat:Int)<32)) (κr (true,(false),())) (br (decide (0<=i)&&decide (i<a.length)) (br (decide ((↑(a.getD i.toNat (0:UInt8)).toNat:Int)>126)) (κr (true,(false),())) (κl (i64.wrap (i+1)))) δ)) δ) (κr (false,false,()))
def xaC (a:List UInt8):StT (Int) (Bool×(Bool)×(Unit)):=fun (i)=>xck a i none inL inR
def xj2:=xzY.l 20 0 [] [] Tryz.f68 0 lk0 [0,3] [2] [] (q2 pStr qI) xIT (fun (a,i,_) _=>(xaC a,(i),fun p=>(.node p.1 (.leaf .ret [AV.bool p.2.1] []) (.leaf (.exit 0) [.top] [])))) (false,false,()) fun (a,_,_) _ (i)=>(((a,i,()),()),xck a i none)
def xiX {T:Type} (a:List UInt8) (δ:T) (κ:Bool->T):T:=br ((Iter (xaC a) 0).isSome) (br (((Iter (xaC a) 0).getD (false,false,())).fst) (κ (((Iter (xaC a) 0).getD (false,false,())).snd.fst)) (κ (true))) δ
def xhP (a:List UInt8):=xiX a none some
def xEG:EO:=xzY.f Tryz.func68 20 0 [] [(2,xj2.lp)] (lk1 xj2.ok) (u1 (sEq pStr)) (fun (a,_) _=>xiX a) (fun _ p=>AV.bool p) false
def xmf {T:Type} (c a:Int) (b:List UInt8) (δ:T) (κ:Bool->T):T:=br (c==0) (br (a==0) (κ (b==[])) (κ (false))) (br (c==1) (br (b==[]) (br (decide (a>=(-1125899906842624))) (κ (decide (a<=1125899906842624))) (κ (false))) (κ (false))) (br (c==2) (br (a==0) (br (decide ((↑b.length:Int)<=200)) (br ((xhP b).isSome) (κ ((xhP b).getD false)) δ) (κ (false))) (κ (false))) (br (c==3) (br (b==[]) (br (a==0) (κ (true)) (κ (a==1))) (κ (false))) (κ (false)))))
def xhw (a b:Int) (c:List UInt8):=xmf a b c none some
def xzZ:EO:=xEG.f Tryz.func40 61 0 [] [] lk0 (u1 (xI7 (u3 uI uI (sEq pStr)))) (fun ((a,b,c,_),_) _=>xmf a b c) (fun _ p=>AV.bool p) false
def xdZ (a:LA) (i:Int):=xhw (gC a i 0).toInt (gC a i 1).toInt (gC a i 2).toStr
def xds {T:Type} (a b:LA) (i:Int) (δ:T) (κl:(Int)->T) (κr:(Bool×(Bool)×(Unit))->T):T:=br (decide (i<a.length)) (br (ixI a i) (br (ixT a i 3 [Sh.int .i64,Sh.int .i64,Sh.str] 0) (br ((xdZ a i).isSome) (br (!(xdZ a i).getD false) (κr (true,(false),())) (br (ixI a i) (br (ixS a i (Sh.int .i64) 0) (br ((gC a i 0).toInt != 0) (br (ixI a i) (br (ixS a i (Sh.int .i64) 0) (br (ixI b i) (br (ixS b i (Sh.int .i64) 0) (br ((gC a i 0).toInt != (gC b i 0).toInt) (κr (true,(false),())) (κl (i64.wrap (i+1)))) δ) δ) δ) δ) (κl (i64.wrap (i+1)))) δ) δ)) δ) δ) δ) (κr (false,false,()))
def xaP (b a:LA):StT (Int) (Bool×(Bool)×(Unit)):=fun (i)=>xds b a i none inL inR
def xnd:=xzZ.l 43 0 [] [] Tryz.f20 0 lk0 [0,1,5] [4] [] (q3 (qL 3) (qL 1) qI) xIT (fun (b,a,i,_) _=>(xaP b a,(i),fun p=>(.node p.1 (.leaf .ret [AV.bool p.2.1] []) (.leaf (.exit 0) [.top] [])))) (false,false,()) fun (b,a,_,_) _ (i)=>(((b,a,i,()),()),xds b a i none)
def xne {T:Type} (b a:LA) (δ:T) (κ:Bool->T):T:=br ((↑b.length:Int) != (↑a.length:Int)) (κ (false)) (br ((Iter (xaP b a) 0).isSome) (br (((Iter (xaP b a) 0).getD (false,false,())).fst) (κ (((Iter (xaP b a) 0).getD (false,false,())).snd.fst)) (κ (true))) δ)
def xmM (b a:LA):=xne b a none some
def xEH:EO:=xzZ.f Tryz.func20 43 0 [] [(4,xnd.lp)] (lk1 xnd.ok) (u2 (uL 3) (uL 1)) (fun (b,a,_) _=>xne b a) (fun _ p=>AV.bool p) false
def xpd (k:Int):Bool:=(br (k==1) ((true)) (br (k==2) ((true)) ((k==3))))
def xv5 {T:Type} (k:Int) (δ:T) (κ:Bool->T):T:=br (k==1) (κ (true)) (br (k==2) (κ (true)) (κ (k==3)))
def xw0:EO:=xEH.fT Tryz.func41 13 0 [] [] lk0 (fun (k,_)=>xv5 k none) (u1 uI) (fun (k,_)=>xpd k) (fun _ p=>(AV.bool p))
def xfy {T:Type} (l:LA) (i:Int) (δ:T) (κl:(Int)->T) (κr:(Bool×(Bool)×(Unit))->T):T:=br (decide (i<l.length)) (br (ixI l i) (br (ixS l i (Sh.int .i64) 0) (br (!xpd (gC l i 0).toInt) (κr (true,(false),())) (κl (i64.wrap (i+1)))) δ) δ) (κr (false,false,()))
def xa7 (l:LA):StT (Int) (Bool×(Bool)×(Unit)):=fun (i)=>xfy l i none inL inR
def xmr:=xw0.l 16 0 [] [] Tryz.f21 0 lk0 [0,3] [2] [] (q2 (qL 1) qI) xIT (fun (l,i,_) _=>(xa7 l,(i),fun p=>(.node p.1 (.leaf .ret [AV.bool p.2.1] []) (.leaf (.exit 0) [.top] [])))) (false,false,()) fun (l,_,_) _ (i)=>(((l,i,()),()),xfy l i none)
def xmh {T:Type} (l:LA) (δ:T) (κ:Bool->T):T:=br ((Iter (xa7 l) 0).isSome) (br (((Iter (xa7 l) 0).getD (false,false,())).fst) (κ (((Iter (xa7 l) 0).getD (false,false,())).snd.fst)) (κ (true))) δ
def xlK (l:LA):=xmh l none some
def xw1:EO:=xw0.f Tryz.func21 16 0 [] [(2,xmr.lp)] (lk1 xmr.ok) (u1 (uL 1)) (fun (l,_) _=>xmh l) (fun _ p=>AV.bool p) false
def xiK {T:Type} (l:LA) (i:Int) (δ:T) (κl:(Int)->T) (κr:(Bool×(Bool)×(Unit))->T):T:=br (decide (i<l.length)) (br (ixI l i) (br (ixS l i (Sh.list 3) 0) (br (decide ((↑(gC l i 0).toList.length:Int)>60)) (κr (true,(false),())) (κl (i64.wrap (i+1)))) δ) δ) (κr (false,false,()))
def xcB (l:LA):StT (Int) (Bool×(Bool)×(Unit)):=fun (i)=>xiK l i none inL inR
def xnx:=xw1.l 23 0 [] [] Tryz.f5 0 lk0 [0,5] [4] [] (q2 (qL 3) qI) xIT (fun (l,i,_) _=>(xcB l,(i),fun p=>(.node p.1 (.leaf .ret [AV.bool p.2.1] []) (.leaf (.exit 0) [.top] [])))) (false,false,()) fun (l,_,_) _ (i)=>(((l,i,()),()),xiK l i none)
def xoi {T:Type} (l:LA) (a:Int) (δ:T) (κ:Bool->T):T:=br (decide ((↑l.length:Int)>a)) (κ (false)) (br ((Iter (xcB l) 0).isSome) (br (((Iter (xcB l) 0).getD (false,false,())).fst) (κ (((Iter (xcB l) 0).getD (false,false,())).snd.fst)) (κ (true))) δ)
def xnZ (l:LA) (a:Int):=xoi l a none some
def xw2:EO:=xw1.f Tryz.func5 23 0 [] [(4,xnx.lp)] (lk1 xnx.ok) (u2 (uL 3) uI) (fun (l,a,_) _=>xoi l a) (fun _ p=>AV.bool p) false
def xd4 {T:Type} (i:Int) (b a:LA) (δ:T) (κl:(Int×LA×LA)->T) (κr:(Bool×(Bool×LA×LA)×(LA×LA))->T):T:=br (decide (i<a.length)) (br (ixI a i) (br (ixT a i 3 [Sh.int .i64,Sh.int .i64] 1) (br (!xjh (gC a i 1).toInt (gC a i 2).toInt) (κr (true,(false,b,a),([],[]))) (br (ixI a i) (br (ixS a i (Sh.list 3) 0) (br ((xmM (gC a i 0).toList b).isSome) (br (!(xmM (gC a i 0).toList b).getD false) (κr (true,(false,b,a),([],[]))) (κl (i64.wrap (i+1),b,a))) δ) δ) δ)) δ) δ) (κr (false,(false,[],[]),(b,a)))
def xa8:StT (Int×LA×LA) (Bool×(Bool×LA×LA)×(LA×LA)):=fun (i,a,b)=>xd4 i a b none inL inR
def xmu:=xw2.l 46 0 [] [] Tryz.f6 0 lk0 [1,3] [1,2] [] (q2 (xI3 0 0 0 0) qI) (q1 (qB 0 2 25 (q1 (xI4 (q2 (qL 1) (qL 3)))))) (fun (_,i,_) (((a,b,_),_),_)=>(xa8,(i,a,b),fun p=>(.node p.1 (.leaf .ret [AV.own 0 0 0 0,AV.bool p.2.1.1] [bF 0 2 25 [AV.agg [AV.list 1 p.2.1.2.1,AV.list 3 p.2.1.2.2]]]) (.leaf (.exit 0) [AV.own 0 0 0 0,.top] [bF 0 2 25 [AV.agg [AV.list 1 p.2.2.1,AV.list 3 p.2.2.2]]])))) (false,(false,[],[]),([],[])) fun _ _ (i,a,b)=>((((),i,()),(((a,b,()),()),())),xd4 i a b none)
def xde (a b:LA):=(Iter xa8 (0,a,b)).getD (false,(false,[],[]),[],[])
def xgK (a b:LA):=(↑(((xde a b).snd).snd.fst).length:Int)
def xmj {T:Type} (a b:LA) (δ:T) (κ:Bool->T):T:=br ((Iter xa8 (0,a,b)).isSome) (br ((xde a b).fst) (κ (((xde a b).snd).fst.fst)) (br (decide (xgK a b>0)) (br (decide (xgK a b<=48)) (br ((xlK (((xde a b).snd).snd.fst)).isSome) (κ ((xlK (((xde a b).snd).snd.fst)).getD false)) δ) (κ (false))) (κ (false)))) δ
def xlL (a b:LA):=xmj a b none some
def xw3:EO:=xw2.f Tryz.func6 46 0 [] [(2,xmu.lp)] (lk1 xmu.ok) (u1 (xI7 (u2 (uL 1) (uL 3)))) (fun ((a,b,_),_) _=>xmj a b) (fun _ p=>AV.bool p) false
end Go.Sim.M
