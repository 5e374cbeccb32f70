/- Part 13 of the proof of the law. -/
import Derived.Test.YtckgiglpmfpagaaGreatDoorQN12
import Derived.StillTailTactics
set_option linter.unusedVariables false
set_option linter.unusedSimpArgs false
set_option maxRecDepth 100000
noncomputable section
namespace Go.Sim.M
def cmpI (x y:Int):Int:=if x<y then -1 else if y<x then 1 else 0
def orI (x y:Int):Int:=if x=0 then y else x
end Go.Sim.M
namespace Go.Proofs
open Go.RowKit Go.Sim Go.Sim.M Go.Sort Go.Lib
theorem Tryz.cmp_walk (x y:Int) (w:World):Calls Tryz.prog 51 #[.int .i64 x,.int .i64 y] w fun e w'=>e=.returned (.int .i64 (cmpI x y))/\w'=w:=by
 unfold cmpI
 go_enter Tryz.func51,Tryz.ntmps51
 go_wp2
 all_goals (go_ret;exact ⟨rfl,rfl⟩)
theorem Tryz.or_walk (x y:Int) (b off c:Nat) (w:World) (h0:w.cell? ⟨b,off,none⟩=some (.int .i64 x)) (h1:w.cell? ⟨b,off+1,none⟩=some (.int .i64 y)):Calls Tryz.prog 73 #[.slice (some ⟨b,off,none⟩) 2 c] w fun e w'=>e=.returned (.int .i64 (orI x y))/\w'=w:=by
 unfold orI;by_cases hx:x=0
 . subst hx;rw [if_pos rfl];by_cases hy:y=0
   . subst hy
     go_enter Tryz.func73,Tryz.ntmps73
     go_wp2
     refine wp_loop_rounds 3 ?_;rw [rounds_succ]
     go_wp2
     rw [rounds_succ]
     go_wp2
     rw [rounds_succ]
     go_wp2
     go_ret
     exact ⟨rfl,rfl⟩
   . have hy':(y != 0)=true:=by simpa using hy
     go_enter Tryz.func73,Tryz.ntmps73
     go_wp2
     refine wp_loop_rounds 3 ?_;rw [rounds_succ]
     go_wp2
     rw [rounds_succ]
     go_wp2
     go_ret
     exact ⟨rfl,rfl⟩
 . have hx':(x != 0)=true:=by simpa using hx
   rw [if_neg hx]
   go_enter Tryz.func73,Tryz.ntmps73
   go_wp2
   refine wp_loop_rounds 3 ?_;rw [rounds_succ]
   go_wp2
   go_ret
   exact ⟨rfl,rfl⟩
theorem fill2I (u1 u2:Int):Instr.fill (fun i=>some (i*1,1)) ((Array.range (2*1)).map (fun x=>(Value.int .i64 0).cells[x % (Value.int .i64 0).cells.size]!)) [(0,.int .i64 u1),(1,.int .i64 u2)]=some #[.int .i64 u1,.int .i64 u2]:=by
 simp [Instr.fill,Array.range,Value.cells];apply Array.ext
 . simp
 . intro i h1 h2;rcases i with _|_|i
   . simp
   . simp
   . simp at h2;omega
set_option maxHeartbeats 2000000 in
theorem Tryz.levels2_walk (a b c d:Int) (w:World):Calls Tryz.prog 91 #[.agg #[.int .i64 a,.int .i64 b],.agg #[.int .i64 c,.int .i64 d]] w fun e w'=>e=.returned (.int .i64 (orI (cmpI a c) (cmpI b d)))/\∃ q J,w'=Sort.grow (w.drewN q) J:=by
 go_enter Tryz.func91,Tryz.ntmps91
 go_wp2_with (go_at_call 51;skip)
 have g0:(w.alloc (.cells #[.int .i64 a,.int .i64 b] 56)).heap[w.heap.size]?=some (.cells #[.int .i64 a,.int .i64 b] 56 (0,0)):=heap_alloc_new w _;have g1:((w.alloc (.cells #[.int .i64 a,.int .i64 b] 56)).alloc (.cells #[.int .i64 c,.int .i64 d] 56)).heap[w.heap.size+1]?=some (.cells #[.int .i64 c,.int .i64 d] 56 (0,0)):=by
  have:=heap_alloc_new (w.alloc (.cells #[.int .i64 a,.int .i64 b] 56)) (.cells #[.int .i64 c,.int .i64 d] 56);have e:(w.alloc (.cells #[.int .i64 a,.int .i64 b] 56)).heap.size=w.heap.size+1:=by simp
  rwa [e] at this
 have f0:((w.alloc (.cells #[.int .i64 a,.int .i64 b] 56)).alloc (.cells #[.int .i64 c,.int .i64 d] 56)).cell? ⟨w.heap.size,0,none⟩=some (.int .i64 a):=by
  rw [World.cell?_alloc_past _ _ _ (by simp)];simp only [World.cell?,g0];rfl
 have f1:((w.alloc (.cells #[.int .i64 a,.int .i64 b] 56)).alloc (.cells #[.int .i64 c,.int .i64 d] 56)).cell? ⟨w.heap.size,1,none⟩=some (.int .i64 b):=by
  rw [World.cell?_alloc_past _ _ _ (by simp)];simp only [World.cell?,g0];rfl
 have f2:((w.alloc (.cells #[.int .i64 a,.int .i64 b] 56)).alloc (.cells #[.int .i64 c,.int .i64 d] 56)).cell? ⟨w.heap.size+1,0,none⟩=some (.int .i64 c):=by
  simp only [World.cell?,g1];rfl
 have f3:((w.alloc (.cells #[.int .i64 a,.int .i64 b] 56)).alloc (.cells #[.int .i64 c,.int .i64 d] 56)).cell? ⟨w.heap.size+1,1,none⟩=some (.int .i64 d):=by
  simp only [World.cell?,g1];rfl
 have f4:∃ q J,((w.alloc (.cells #[.int .i64 a,.int .i64 b] 56)).alloc (.cells #[.int .i64 c,.int .i64 d] 56))=Sort.grow (w.drewN q) J:=⟨0,_,by rw [alloc_eq_grow,alloc_eq_grow,grow_grow];rfl⟩
 generalize ((w.alloc (.cells #[.int .i64 a,.int .i64 b] 56)).alloc (.cells #[.int .i64 c,.int .i64 d] 56))=W2 at f0 f1 f2 f3 f4 |-;refine wp_region_still_tail 10 (by kernel_rfl) (by kernel_rfl) ?_
 simp only [List.take_succ_cons,List.take_zero,List.drop_succ_cons,List.drop_zero];change wpStill _ _ (World.drew W2) _ _ _;have f0':W2.drew.cell? ⟨w.heap.size,0,none⟩=some (.int .i64 a):=f0;have f1':W2.drew.cell? ⟨w.heap.size,1,none⟩=some (.int .i64 b):=f1;have f2':W2.drew.cell? ⟨w.heap.size+1,0,none⟩=some (.int .i64 c):=f2;have f3':W2.drew.cell? ⟨w.heap.size+1,1,none⟩=some (.int .i64 d):=f3;have f4':∃ q J,W2.drew=Sort.grow (w.drewN q) J:=by obtain ⟨q,J,e⟩:=f4;exact ⟨q+1,J,by rw [e];rfl⟩
 iterate 4 still_step
 still_call (Tryz.cmp_walk _ _ _)
 iterate 4 still_step
 still_call (Tryz.cmp_walk _ _ _)
 refine wpStill_nil ?_;change wpList _ _ _ _ _ (World.drew W2);generalize World.drew W2=W at f0' f1' f2' f3' f4' |-;generalize Q:cmpI a c=u1;generalize O:cmpI b d=u2;obtain ⟨ie,q1,q2,q3⟩:∃ ie,Tryz.prog.info? 3=some ie/\ie.zero=some (.int .i64 0)/\ie.size=1:=⟨(Tryz.prog.info? 3).get (by kernel_rfl),(Option.some_get _).symm,by kernel_rfl,by kernel_rfl⟩
 refine wpList_buildSlice rfl 31 3 2 _ rfl #[.int .i64 u1,.int .i64 u2] ie (.int .i64 0) (by kernel_rfl) q1 q2 (by rw [q3];decide) (by rw [q3];decide) (by rw [q3];refine Eq.trans (congrArg _ ?_) (fill2I u1 u2);simp [Act.eval]) ?_
 simp only [Act.put]
 go_wp2_with fail
 have g2:(W.alloc (.cells #[.int .i64 u1,.int .i64 u2] 3)).heap[W.heap.size]?=some (.cells #[.int .i64 u1,.int .i64 u2] 3 (0,0)):=heap_alloc_new W _;refine (Tryz.or_walk u1 u2 W.heap.size 0 2 (W.alloc (.cells #[.int .i64 u1,.int .i64 u2] 3)) (by simp only [World.cell?,g2];rfl) (by simp only [World.cell?,g2];rfl)).mono ?_
 rintro e w' ⟨rfl,rfl⟩
 go_wp2
 go_ret
 obtain ⟨q,J,hq⟩:=f4';exact ⟨by rw [Q,O];rfl,q,_,by rw [hq,alloc_eq_grow,grow_grow]⟩
end Go.Proofs
namespace Go.Sim.M
abbrev TyS:Type:=Fin 1099511627777×Int
def intsS (x:TyS):List Int:=[(x.1.val:Int),x.2]
def cmpS (x y:TyS):Int:=(x.1.val:Int) - (y.1.val:Int)
end Go.Sim.M
namespace Go.Proofs
open Go.RowKit Go.Sim Go.Sim.M Go.Sort
set_option maxHeartbeats 1000000 in
theorem Tryz.walkS (a b a' b' r:Int) (hr:IntKind.i64.wrap (a - a')=r) (W:World):Calls Tryz.prog 115 #[.agg #[.int .i64 a,.int .i64 b],.agg #[.int .i64 a',.int .i64 b']] W fun e w'=>e=.returned (.int .i64 r)/\∃ q os',w'=Sort.grow (W.drewN q) os':=by
 go_enter Tryz.func115,Tryz.ntmps115
 go_wp2
 go_ret
 subst hr;exact ⟨rfl,0,_,by rw [alloc_eq_grow,alloc_eq_grow,grow_grow];rfl⟩
end Go.Proofs
namespace Go.Sim.M
open Go.RowKit Go.Proofs Go.Sort
def isS:AV->Bool
 | .agg [.int .i64 a,.int .i64 _]=>decide (0<=a)&&decide (a<=1099511627776)
 | _=>false
def decS:AV->TyS
 | .agg [.int _ a,.int _ b]=>(Fin.ofNat 1099511627777 a.toNat,b)
 | _=>default
noncomputable def srtS (xs:List AV):List AV:=(pdqL cmpS (xs.map decS)).map (encI intsS)
theorem xCn {x:AV} (h:isS x=true):encI intsS (decS x)=x:=by
 unfold isS at h;split at h
 . rename_i a b;simp only [Bool.and_eq_true,decide_eq_true_eq] at h;have:a.toNat % 1099511627777=a.toNat:=Nat.mod_eq_of_lt (by omega)
   simp only [decS,encI,intsS,List.map_cons,List.map_nil,Fin.ofNat,this,Int.toNat_of_nonneg h.1]
 . simp at h
theorem xA4 {xs:List AV} (h:xs.all isS=true):(xs.map decS).map (encI intsS)=xs:=by
 rw [List.map_map]
 conv=>rhs;rw [<-List.map_id xs]
 refine List.map_congr_left fun x hx=>?_
 exact xCn (List.all_eq_true.1 h x hx)
theorem ltS (x y:TyS):ltOf cmpS x y=decide (x.1.val<y.1.val):=by
 unfold ltOf cmpS;by_cases h:x.1.val<y.1.val
 . rw [decide_eq_true h,decide_eq_true (by omega)]
 . rw [decide_eq_false h,decide_eq_false (by omega)]
theorem swoS:SWO (ltOf cmpS) where
 irrefl x:=by rw [ltS];simp
 trans x y z h1 h2:=by rw [ltS] at *;simp at *;omega
 ntrans x y z h1 h2:=by rw [ltS] at *;simp at *;omega
noncomputable def xup:List AV->List Box->Option (Bool×AV×List Box)
 | [.osl (.b 0) ver 0 n,.func g []],[⟨ver',2,ty,xs,false,true⟩]=>match Nat.beq g 115&&Nat.beq ty 131 with
  | true=>some (Nat.beq ver ver'&&(Nat.beq n xs.length&&(decide (n<4611686018427387904)&&xs.all isS)),.tuple [],[⟨ver',2,131,srtS xs,false,true⟩])
  | false=>none
 | _,_=>none
theorem xEb:OmOk Tryz.prog xHL 114 xup:=fun Q H r H' h=>by
 unfold xup at h;split at h
 . rename_i ver n g O ty xs;split at h
   case h_2=>simp at h
   rename_i hg;simp only [Bool.and_eq_true] at hg;obtain rfl:=Nat.eq_of_beq_eq_true hg.1;obtain rfl:=Nat.eq_of_beq_eq_true hg.2;simp only [Option.some.injEq,Prod.mk.injEq,Bool.and_eq_true,decide_eq_true_eq] at h;obtain ⟨⟨h1,h2,h3,h4⟩,rfl,rfl⟩:=h;obtain rfl:=Nat.eq_of_beq_eq_true h1;obtain rfl:=Nat.eq_of_beq_eq_true h2;have q:∃ ti,xG2 Tryz.prog 131=some ti/\ti.sz=2/\ti.agg=true:=by
    have h:(match xG2 Tryz.prog 131 with|some ti=>(ti.sz==2)&&ti.agg|none=>false)=true:=by kernel_rfl
    split at h
    . rename_i ti q;simp only [Bool.and_eq_true,beq_iff_eq] at h;exact ⟨ti,q,h.1,h.2⟩
    . simp at h
   obtain ⟨ti,q,hz,ha⟩:=q;have J:=xq1 (P:=Tryz.prog) (Inv:=xHL) Tryz.srl114 2 (by decide) (fun w=>by rw [<-ha];exact xlX q w) (fun w=>by rw [<-hz];exact xd9 q w)
    intsS (fun _=>rfl) cmpS swoS 115 (xgn Tryz.func114 rfl (by kernel_rfl)) (xl1 (xgn Tryz.func115 rfl (by kernel_rfl)))
    (fun x y W=>Tryz.walkS _ _ _ _ (cmpS x y) (by
     have:=x.1.isLt;have:=y.1.isLt;unfold cmpS;exact xde (by omega) (by omega)) W)
    ver 131 rfl (xs.map decS) (by simpa using h3)
   rw [List.length_map,xA4 h4] at J;exact J
 . simp at h
end Go.Sim.M
namespace Go.Sim.M
abbrev TyP:Type:=Int×Int
def intsP (x:TyP):List Int:=[x.1,x.2]
def cmpP (x y:TyP):Int:=orI (cmpI x.1 y.1) (cmpI x.2 y.2)
end Go.Sim.M
namespace Go.Sim.M
open Go.RowKit Go.Proofs Go.Sort
def isP:AV->Bool
 | .agg [.int .i64 _,.int .i64 _]=>true
 | _=>false
def decP:AV->TyP
 | .agg [.int _ a,.int _ b]=>(a,b)
 | _=>default
noncomputable def srtP (xs:List AV):List AV:=(pdqL cmpP (xs.map decP)).map (encI intsP)
theorem xCm {x:AV} (h:isP x=true):encI intsP (decP x)=x:=by
 unfold isP at h;split at h
 . rfl
 . simp at h
theorem xA3 {xs:List AV} (h:xs.all isP=true):(xs.map decP).map (encI intsP)=xs:=by
 rw [List.map_map]
 conv=>rhs;rw [<-List.map_id xs]
 refine List.map_congr_left fun x hx=>?_
 exact xCm (List.all_eq_true.1 h x hx)
theorem ltP (x y:TyP):ltOf cmpP x y=decide (x.1<y.1\/x.1=y.1/\x.2<y.2):=by
 unfold ltOf cmpP orI cmpI;by_cases h:x.1<y.1\/x.1=y.1/\x.2<y.2
 . rw [decide_eq_true h];simp only [decide_eq_true_eq];rcases h with h|⟨h,h'⟩
   . simp [h]
   . simp [h,h']
 . rw [decide_eq_false h];simp only [decide_eq_false_iff_not];have h1:¬ x.1<y.1:=fun e=>h (.inl e)
   by_cases h2:y.1<x.1
   . simp [h1,h2]
   . have h3:x.1=y.1:=by omega
     have h4:¬ x.2<y.2:=fun e=>h (.inr ⟨h3,e⟩)
     by_cases h5:y.2<x.2
     . simp [h1,h2,h4,h5]
     . simp [h1,h2,h4,h5]
theorem swoP:SWO (ltOf cmpP) where
 irrefl x:=by rw [ltP];simp
 trans x y z h1 h2:=by rw [ltP] at *;simp only [decide_eq_true_eq] at *;omega
 ntrans x y z h1 h2:=by rw [ltP] at *;simp only [decide_eq_true_eq,decide_eq_false_iff_not] at *;omega
noncomputable def xuo:List AV->List Box->Option (Bool×AV×List Box)
 | [.osl (.b 0) ver 0 n,.func g []],[⟨ver',2,ty,xs,false,true⟩]=>match Nat.beq g 91&&Nat.beq ty 56 with
  | true=>some (Nat.beq ver ver'&&(Nat.beq n xs.length&&(decide (n<4611686018427387904)&&xs.all isP)),.tuple [],[⟨ver',2,56,srtP xs,false,true⟩])
  | false=>none
 | _,_=>none
theorem xEa:OmOk Tryz.prog xHL 90 xuo:=fun Q H r H' h=>by
 unfold xuo at h;split at h
 . rename_i ver n g O ty xs;split at h
   case h_2=>simp at h
   rename_i hg;simp only [Bool.and_eq_true] at hg;obtain rfl:=Nat.eq_of_beq_eq_true hg.1;obtain rfl:=Nat.eq_of_beq_eq_true hg.2;simp only [Option.some.injEq,Prod.mk.injEq,Bool.and_eq_true,decide_eq_true_eq] at h;obtain ⟨⟨h1,h2,h3,h4⟩,rfl,rfl⟩:=h;obtain rfl:=Nat.eq_of_beq_eq_true h1;obtain rfl:=Nat.eq_of_beq_eq_true h2;have q:∃ ti,xG2 Tryz.prog 56=some ti/\ti.sz=2/\ti.agg=true:=by
    have h:(match xG2 Tryz.prog 56 with|some ti=>(ti.sz==2)&&ti.agg|none=>false)=true:=by kernel_rfl
    split at h
    . rename_i ti q;simp only [Bool.and_eq_true,beq_iff_eq] at h;exact ⟨ti,q,h.1,h.2⟩
    . simp at h
   obtain ⟨ti,q,hz,ha⟩:=q;have J:=xq1 (P:=Tryz.prog) (Inv:=xHL) Tryz.srl90 2 (by decide) (fun w=>by rw [<-ha];exact xlX q w) (fun w=>by rw [<-hz];exact xd9 q w)
    intsP (fun _=>rfl) cmpP swoP 91 (xgn Tryz.func90 rfl (by kernel_rfl)) (xl1 (xgn Tryz.func91 rfl (by kernel_rfl)))
    (fun x y W=>Tryz.levels2_walk _ _ _ _ W)
    ver 56 rfl (xs.map decP) (by simpa using h3)
   rw [List.length_map,xA3 h4] at J;exact J
 . simp at h
end Go.Sim.M
namespace Go.Sim.M
open Go.RowKit Go.Proofs
noncomputable def E1:Env:=(xDa.E.withM 114 xup).withM 90 xuo
theorem xC4:xG3 Tryz.prog xHL E1:=(xDa.ok.withM xEb).withM xEa
noncomputable def xFn:EO:=EO.mk E1 xC4
end Go.Sim.M
namespace Go.Sim.M
open Go.IntKind (i64 u64 u8)
open Go.RowKit Go.Proofs
def xiE:Env:=E1.fn 29 1 (lsOf []) (xHp [])
theorem xtZ:xG3 P0 (xHL.at 1) xiE:=xC4.fn
theorem xrP:LoOk P0 (xHL.at xiE.pin) xiE (Tryz.f116.body.getD .skip):=xe4 (by kernel_rfl)
def xoC {T:Type} (k:Nat) (a n:Int) (b:LA) (δ:T) (κ:Bool×(Nat×LA)×(Nat×LA)->T):T:=br (rmB k b 1 16) (κ (false,(0,[]),(k+1,b++[AV.agg [AV.int .i64 a,AV.int .i64 n]]))) δ
def xp9 {T:Type} (k:Nat) (b n:Int) (a:LA) (δ:T) (κ:Bool×(Nat×LA)×(Nat×LA)->T):T:=br (decide ((↑k:Int)>0)) (br (decide (0<=i64.wrap ((↑k:Int) - 1))&&decide (i64.wrap ((↑k:Int) - 1)<(↑k:Int))) (br (decide (0+(i64.wrap ((↑k:Int) - 1)).toNat<a.length)&&xG1 (Sh.int .i64) ((a.getD (0+(i64.wrap ((↑k:Int) - 1)).toNat) .top).cells.getD 1 .top)) (br (((a.getD (0+(i64.wrap ((↑k:Int) - 1)).toNat) .top).cells.getD 1 .top).toInt==n) (κ (true,(k,a),(0,[]))) (xoC k b n a δ κ)) δ) δ) (xoC k b n a δ κ)
def xdM (k:Nat) (a n:Int) (b:LA):=xp9 k a n b none some
theorem xyy (k:Nat) (a n:Int) (xs:LA):Enc (fun (p:Bool×(Nat×LA)×(Nat×LA))=>((br p.1 ((AV.osl 0 0 0 p.2.1.1,([⟨0,2,131,p.2.1.2,false,true⟩]:List Box))) ((AV.osl 0 1 0 p.2.2.1,([⟨1,2,131,p.2.2.2,false,true⟩]:List Box)))):(AV×List Box))) (xdM k a n xs) (XFM P0 xiE Tryz.f116 (Tryz.f116.body.getD .skip) [AV.osl (0:Id) 0 0 k,AV.int .i64 a,AV.int .i64 n] [{ ver:=0,sz:=2,ty:=(131:TypeId),xs:=xs,frz:=false,pm:=true }]):=by
 have h:XFM P0 xiE Tryz.f116 (Tryz.f116.body.getD .skip) [AV.osl (0:Id) 0 0 k,AV.int .i64 a,AV.int .i64 n] [{ ver:=0,sz:=2,ty:=(131:TypeId),xs:=xs,frz:=false,pm:=true }]=xp9 k a n xs none (fun (p:Bool×(Nat×LA)×(Nat×LA))=>some ((br p.1 ((AV.osl 0 0 0 p.2.1.1,([⟨0,2,131,p.2.1.2,false,true⟩]:List Box))) ((AV.osl 0 1 0 p.2.2.1,([⟨1,2,131,p.2.2.2,false,true⟩]:List Box)))):(AV×List Box))):=by kernel_rfl
 rw [h];unfold xdM xp9 xoC;repeat' (first|refine Enc.br ?_ ?_|exact Enc.none|exact Enc.some rfl)
def xyw:LA->List Box->Option (Bool×AV×List Box):=omOf (xHN (sEq (xHY 0 0 0)) (xHN (sEq (pInt .i64)) (xHN (sEq (pInt .i64)) xHP))) (xHM (xH0 0 2 (131:TypeId) false true xHQ) xHO) fun (k,(a,(n,_))) (b,_)=>((xdM k a n b).isSome,(AV.osl 0 1 0 (br ((xdM k a n b).getD (false,(0,[]),(0,[]))).1 ((xdM k a n b).getD (false,(0,[]),(0,[]))).2.1.1 ((xdM k a n b).getD (false,(0,[]),(0,[]))).2.2.1),([⟨1,2,131,(br ((xdM k a n b).getD (false,(0,[]),(0,[]))).1 ((xdM k a n b).getD (false,(0,[]),(0,[]))).2.1.2 ((xdM k a n b).getD (false,(0,[]),(0,[]))).2.2.2),false,true⟩]:List Box)))
theorem xyv:OmOk P0 xHL 116 (xyw):=xlT fun e f j i g=>by
 obtain ⟨k,⟨b,⟨n,_⟩⟩⟩:=e;obtain ⟨h,_⟩:=f;obtain ⟨c,a⟩:=Prod.mk.inj g;have hx:=xyy _ _ _ _ _ (xcy (d:=(false,(0,[]),(0,[]))) c);revert hx a;generalize ((xdM k b n h).getD (false,(0,[]),(0,[])))=p;intro a hx;obtain ⟨rfl,rfl⟩:=Prod.mk.inj a;obtain ⟨t,⟨l,m⟩,o,q⟩:=p;have hg:GoodM P0 xHL 116 _ _ _ _:=xg1 (p:=xiE.pin) (xiH xHc (xHd P0 _) rfl xtZ rfl Tryz.func116 rfl (by kernel_rfl) xrP hx)
 cases t
 . exact hg
 . exact GoodM.bump1 rfl (by decide) hg
def xrd:EO:=xFn.wM xyv
def xlf {T:Type} (d:LA) (e:Int) (b:Nat) (c:Int) (a:LA) (δ:T) (κl:(Nat×Int×LA)->T) (κr:(Nat×LA)->T):T:=br (decide (c<e)) (br (ixI d c) (br (ixT d c 3 [Sh.int .i64,Sh.int .i64,Sh.int .i64] 0) (br (xgw (gC d c 0).toInt (gC d c 1).toInt) (br (rmB b a 2 16) (κl (b+2,i64.wrap (c+1),a++[AV.agg [AV.int .i64 (gC d c 0).toInt,AV.int .i64 (gC d c 2).toInt],AV.agg [AV.int .i64 (gC d c 1).toInt,AV.int .i64 (i64.wrap (0 - (gC d c 2).toInt))]])) δ) (κl (b,i64.wrap (c+1),a))) δ) δ) (κr (b,a))
def xfd (c:LA) (d:Int):StT (Nat×Int×LA) (Nat×LA):=fun (b,e,a)=>xlf c d b e a none inL inR
def xir:=xrd.l 106 0 [] [] Tryz.f92 0 lk0 [3,10,11,12] [3] [(3,2,131)] (q4 (xHY 0 0 0) (qL 3) qI qI) (q1 (qB 0 2 131 xHQ)) (fun (b,c,d,e,_) (a,_)=>(xfd c d,(b,e,a),fun p=>(.leaf (.exit 0) [AV.osl 0 0 0 p.1] [bF 0 2 131 p.2]))) (0,[]) fun (_,c,d,_,_) _ (b,e,a)=>(((b,c,d,e,()),(a,())),xlf c d b e a none)
def xqn (i:Int) (a:LA):=decide (0+i.toNat<a.length)
def xq2 {T:Type} (b e:Nat) (d i:Int) (a c:LA) (δ:T) (κl:(Int×Int×LA×LA)->T) (κr:(Int×Int×LA×LA)->T):T:=br (decide (i<(↑b:Int))) (br (decide (0<=i)&&decide (i<(↑b:Int))) (br (xqn i a&&xG1 (Sh.int .i64) ((a.getD (0+i.toNat) .top).cells.getD 0 .top)) (br (((a.getD (0+i.toNat) .top).cells.getD 0 .top).toInt==0) (br (decide (0<=i)&&decide (i<(↑b:Int))) (br (xqn i a&&xG1 (Sh.int .i64) ((a.getD (0+i.toNat) .top).cells.getD 1 .top)) (κl (i64.wrap (d+((a.getD (0+i.toNat) .top).cells.getD 1 .top).toInt),i64.wrap (i+1),a,c)) δ) δ) (κr (d,i,a,c))) δ) δ) (κr (d,i,a,c))
def xi1 (b d:Nat):StT (Int×Int×LA×LA) (Int×Int×LA×LA):=fun (e,i,a,c)=>xq2 b d e i a c none inL inR
def xkB:=xrd.l 106 0 [] [(3,xir.lp)] Tryz.f92 1 lk0 [3,6,7,8] [3,6,7,8] [(3,2,131),(6,2,131)] (q4 (xHY 0 0 0) (xHY 1 0 0) qI qI) (q2 (qB 0 2 131 xHQ) (qB 0 2 131 xHQ)) (fun (a,c,e,i,_) (b,d,_)=>(xi1 a c,(e,i,b,d),fun p=>(.leaf (.exit 2) [AV.osl 0 0 0 a,AV.osl 1 0 0 c,AV.int .i64 p.1,AV.int .i64 p.2.1] [bF 0 2 131 p.2.2.1,bF 0 2 131 p.2.2.2]))) (0,0,[],[]) fun (a,c,_,_,_) _ (e,i,b,d)=>(((a,c,e,i,()),(b,d,())),xq2 a c e i b d none)
def xiD (i:Int) (a:LA):=decide (0+i.toNat<a.length)
def xi8 {T:Type} (b f:Nat) (e d i:Int) (a c:LA) (δ:T) (κl:(Int×Int×LA×LA)->T) (κr:(Int×Int×LA×LA)->T):T:=br (decide (i<(↑b:Int))) (br (decide (0<=i)&&decide (i<(↑b:Int))) (br (xiD i a&&xG1 (Sh.int .i64) ((a.getD (0+i.toNat) .top).cells.getD 0 .top)) (br (((a.getD (0+i.toNat) .top).cells.getD 0 .top).toInt==e) (br (decide (0<=i)&&decide (i<(↑b:Int))) (br (xiD i a&&xG1 (Sh.int .i64) ((a.getD (0+i.toNat) .top).cells.getD 1 .top)) (κl (i64.wrap (d+((a.getD (0+i.toNat) .top).cells.getD 1 .top).toInt),i64.wrap (i+1),a,c)) δ) δ) (κr (d,i,a,c))) δ) δ) (κr (d,i,a,c))
def xec (b d:Nat) (e:Int):StT (Int×Int×LA×LA) (Int×Int×LA×LA):=fun (f,i,a,c)=>xi8 b d e f i a c none inL inR
def xkC:=xrd.l 106 0 [] [(3,xir.lp),(11,xkB.lp)] Tryz.f92 3 lk0 [3,6,7,8,9] [3,6,7,8,9] [(3,2,131),(6,2,131)] (q5 (xHY 0 0 0) (xHY 1 0 0) qI qI qI) (q2 (qB 0 2 131 xHQ) (qB 0 2 131 xHQ)) (fun (a,c,f,i,e,_) (b,d,_)=>(xec a c e,(f,i,b,d),fun p=>(.leaf (.exit 6) [AV.osl 0 0 0 a,AV.osl 1 0 0 c,AV.int .i64 p.1,AV.int .i64 p.2.1,AV.int .i64 e] [bF 0 2 131 p.2.2.1,bF 0 2 131 p.2.2.2]))) (0,0,[],[]) fun (a,c,_,_,e,_) _ (f,i,b,d)=>(((a,c,f,i,e,()),(b,d,())),xi8 a c e f i b d none)
def xhu (i:Int) (a:LA):=decide (0+i.toNat<a.length)&&xG1 (Sh.int .i64) ((a.getD (0+i.toNat) .top).cells.getD 0 .top)
def xfR (i:Int) (a:LA):=((a.getD (0+i.toNat) .top).cells.getD 0 .top).toInt
def xhv (b d:Nat) (e i:Int) (a c:LA):=Iter (xec b d (xfR i a)) (e,i,a,c)
def xiC (b d:Nat) (e i:Int) (a c:LA):=(xhv b d e i a c).getD (0,0,[],[])
def xiA (b d:Nat) (e i:Int) (a c:LA):=(xiC b d e i a c).snd
def xiB (b d:Nat) (e i:Int) (a c:LA):=(xiC b d e i a c).fst
def xiz (b d:Nat) (e i:Int) (a c:LA):=(xiA b d e i a c).snd
def xiy (b c:Nat) (e i:Int) (a d:LA):=xdM c (xfR i a) (xiB b c e i a d) (xiz b c e i a d).snd
def xiw (b d:Nat) (e i:Int) (a c:LA):=(xiy b d e i a c).getD (false,(0,[]),0,[])
def xiu (b d:Nat) (e i:Int) (a c:LA):=(xiw b d e i a c).fst
def xiv (b d:Nat) (e i:Int) (a c:LA):=(xiw b d e i a c).snd
def xis (b d:Nat) (e i:Int) (a c:LA):=(xiv b d e i a c).fst
def xit (b d:Nat) (e i:Int) (a c:LA):=(xiv b d e i a c).snd
def xi7 {T:Type} (b d:Nat) (e i:Int) (a c:LA) (δ:T) (κl:(Nat×Int×Int×LA×LA)->T) (κr:(Nat×LA)->T):T:=br (decide (i<(↑b:Int))) (br (decide (0<=i)&&decide (i<(↑b:Int))) (br (xhu i a) (br (decide (xfR i a<1099511627776)) (br (decide (0<=i)&&decide (i<(↑b:Int))) (br (xhu i a) (br ((xhv b d e i a c).isSome) (br ((xiy b d e i a c).isSome) (κl (br (xiu b d e i a c) (xis b d e i a c).fst (xit b d e i a c).fst,xiB b d e i a c,(xiA b d e i a c).fst,(xiz b d e i a c).fst,br (xiu b d e i a c) (xis b d e i a c).snd (xit b d e i a c).snd)) δ) δ) δ) δ) (κr (d,c))) δ) δ) (κr (d,c))
def xfe (b:Nat):StT (Nat×Int×Int×LA×LA) (Nat×LA):=fun (d,e,i,a,c)=>xi7 b d e i a c none inL inR
def xqo:=xrd.l 106 0 [] [(3,xir.lp),(11,xkB.lp),(17,xkC.lp)] Tryz.f92 2 (lk1 xkC.ok) [3,6,7,8] [6] [(3,2,131),(6,2,131)] (q4 (xHY 0 0 0) (xHY 1 0 0) qI qI) (q2 (qB 0 2 131 xHQ) (qB 0 2 131 xHQ)) (fun (b,d,e,i,_) (a,c,_)=>(xfe b,(d,e,i,a,c),fun p=>(.leaf (.exit 4) [AV.osl 0 0 0 p.1] [bF 0 2 131 p.2]))) (0,[]) fun (b,_,_,_,_) _ (d,e,i,a,c)=>(((b,d,e,i,()),(a,c,())),xi7 b d e i a c none)
def xps (l:LA):=(Iter (xfd l (↑l.length:Int)) (0,0,[])).getD (0,[])
def xkc (l:LA):=(xps l).fst
def xm3 (l:LA):=(xps l).snd
def xpr (l:LA):=Iter (xi1 (xkc l) 0) (0,0,srtS (xm3 l),[])
def xpq (l:LA):=(xpr l).getD (0,0,[],[])
def xpo (l:LA):=(xpq l).snd
def xpp (l:LA):=(xpq l).fst
def xpn (l:LA):=(xpo l).snd
def xp8 (l:LA):=xdM 0 0 (xpp l) (xpn l).snd
def xp7 (l:LA):=(xp8 l).getD (false,(0,[]),0,[])
def xp5 (l:LA):=(xp7 l).fst
def xp6 (l:LA):=(xp7 l).snd
def xp3 (l:LA):=(xp6 l).fst
def xp4 (l:LA):=(xp6 l).snd
def xp2 (l:LA):=Iter (xfe (xkc l)) (br (xp5 l) (xp3 l).fst (xp4 l).fst,xpp l,(xpo l).fst,(xpn l).fst,br (xp5 l) (xp3 l).snd (xp4 l).snd)
def xp1 (l:LA):=(xp2 l).getD (0,[])
def xpx (l:LA):=(xp1 l).snd
def xp0 (l:LA):=(xp1 l).fst
def xqP {T:Type} (l:LA) (δ:T) (κ:LA->T):T:=br ((Iter (xfd l (↑l.length:Int)) (0,0,[])).isSome) (br ((xkc l).beq (xm3 l).length&&(decide (xkc l<4611686018427387904)&&(xm3 l).all isS)) (br ((xpr l).isSome) (br ((xp8 l).isSome) (br ((xp2 l).isSome) (br (decide (0+xp0 l<=(xpx l).length)&&true) (κ (List.take (xp0 l) (List.drop 0 (xpx l)))) δ) δ) δ) δ) δ) δ
def xqO (l:LA):=xqP l none some
def xAC:EO:=xrd.f Tryz.func92 106 0 [] [(3,xir.lp),(11,xkB.lp),(17,xkC.lp),(15,xqo.lp)] (lks (lkC xir.ok (lkC xkB.ok (lkC xqo.ok (lkC xkC.ok lkN))))) (u1 (uL 3)) (fun (l,_) _=>xqP l) (fun _ p=>AV.list 2 p) []
def xfu {T:Type} (d:LA) (e:Int) (c:Nat) (b:Int) (a:LA) (δ:T) (κl:(Nat×Int×LA)->T) (κr:(Nat×LA)->T):T:=br (decide (b<e)) (br (ixI d b) (br (ixT d b 2 [Sh.int .i64,Sh.int .i64] 0) (br (rmB c a 1 24) (κl (c+1,i64.wrap (b+1),a++[AV.agg [AV.int .i64 (gC d b 0).toInt,AV.int .i64 (gC d b 1).toInt,AV.int .i64 1]])) δ) δ) δ) (κr (c,a))
def xb7 (c:LA) (d:Int):StT (Nat×Int×LA) (Nat×LA):=fun (b,e,a)=>xfu c d b e a none inL inR
def xkP:=xAC.l 20 0 [] [] Tryz.f71 0 lk0 [3,6,7,8] [3] [(3,3,136)] (q4 (xHY 0 0 0) (qL 2) qI qI) (q1 (qB 0 3 136 xHQ)) (fun (b,c,d,e,_) (a,_)=>(xb7 c d,(b,e,a),fun p=>(.leaf (.exit 0) [AV.osl 0 0 0 p.1] [bF 0 3 136 p.2]))) (0,[]) fun (_,c,d,_,_) _ (b,e,a)=>(((b,c,d,e,()),(a,())),xfu c d b e a none)
def xji (l:LA):=(Iter (xb7 l (↑l.length:Int)) (0,0,[])).getD (0,[])
def xjg (l:LA):=(xji l).fst
def xjh (l:LA):=(xji l).snd
def xjf (l:LA):=xqO (List.take (xjg l) (List.drop 0 (xjh l)))
def xjy {T:Type} (l:LA) (δ:T) (κ:LA->T):T:=br ((Iter (xb7 l (↑l.length:Int)) (0,0,[])).isSome) (br (decide (0+xjg l<=(xjh l).length)&&true) (br ((xjf l).isSome) (κ ((xjf l).getD [])) δ) δ) δ
def xeZ (l:LA):=xjy l none some
def xqb:EO:=xAC.f Tryz.func71 20 0 [] [(3,xkP.lp)] (lk1 xkP.ok) (u1 (uL 2)) (fun (l,_) _=>xjy l) (fun _ p=>AV.list 2 p) []
def xjp {T:Type} (o n:Int) (e f:Nat) (k p m j:Int) (h l i g a:Nat) (b:LA) (d:Nat) (c:LA) (δ:T) (κl:(Int×Int×Nat×Nat×Nat×Nat×Nat×LA×Nat×LA)->T) (κr:(Int×Nat×Nat×Nat×Nat×LA×Nat×LA×Nat)->T):T:=br (decide (m<p)) (br (a==e) (br (a==e) (br (a==e&&(decide (f<b.length)&&xG1 (Sh.int .i64) ((b.getD f .top).cells.getD 0 .top))) (br (d==g&&(rmB i c 1 16)) (κl (i64.wrap (m+1),j,h,l,i+1,g+1,a,List.take h b,g+1,c++[AV.agg [AV.int .i64 ((b.getD f .top).cells.getD 0 .top).toInt,AV.int .i64 o]])) δ) δ) δ) δ) (κr (j,l,h,g,i,b,a,c,d))
def xc5 (m n:Int) (e f:Nat) (k o:Int):StT (Int×Int×Nat×Nat×Nat×Nat×Nat×LA×Nat×LA) (Int×Nat×Nat×Nat×Nat×LA×Nat×LA×Nat):=fun (p,g,h,i,j,l,a,b,c,d)=>xjp m n e f k o p g h i j l a b c d none inL inR
def xiV:=xqb.l 71 5 [] [] Tryz.f89 1 lk0 [0,1,2,3,4,7,8,37,38] [0,1,2,3,4,7,8] [(3,0,0)] (q9 qI qI (xHZ 0 0 0 0) (xHZ 1 0 0 0) (xHZ 2 0 0 0) (pOwnV 3 0) qI qI qI) (q5 (qB 0 1 3 (q1 qI)) (xH0 0 1 125 false false (q1 (pOslV 3 0))) (xH0 0 1 97 false false (q1 (pOslV 4 0))) (pBoxV 2 127 false true xHQ) (pBoxV 2 56 false true xHQ)) (fun (o,n,_,_,_,(e,f),k,q,r,_) ((g,_),((h,i),_),((j,m),_),(a,b),(c,d),_)=>(xc5 o n e f k q,(r,g,i,h,m,j,a,b,c,d),fun p=>(.leaf (.exit 2) [AV.int .i64 o,AV.int .i64 n,AV.own 0 0 0 0,AV.own 1 0 0 0,AV.own 2 0 0 0,AV.own 3 e f 0,AV.int .i64 k] [bF 0 1 3 [AV.int .i64 p.1],⟨0,1,125,[AV.osl 3 p.2.1 0 p.2.2.1],false,false⟩,⟨0,1,97,[AV.osl 4 p.2.2.2.1 0 p.2.2.2.2.1],false,false⟩,bF p.2.2.2.2.2.2.1 2 127 p.2.2.2.2.2.1,bF p.2.2.2.2.2.2.2.2 2 56 p.2.2.2.2.2.2.2.1]))) (0,0,0,0,0,[],0,[],0) fun (o,n,_,_,_,(e,f),k,q,_,_) _ (r,g,i,h,m,j,a,b,c,d)=>(((o,n,(),(),(),(e,f),k,q,r,()),((g,()),((h,i),()),((j,m),()),(a,b),(c,d),())),xjp o n e f k q r g i h m j a b c d none)
def xa6 (a:Nat):Nat:=0+(i64.wrap ((↑a:Int) - 1)).toNat
def xdJ (n b:Int) (c d:Nat) (a:LA):Int:=if i64.wrap (b - n)<((a.getD (xa6 c) .top).cells.getD 1 .top).toInt then i64.wrap (b - n) else ((a.getD (xa6 c) .top).cells.getD 1 .top).toInt
def xhS (j n d:Int) (c g h i a:Nat) (b:LA) (e:Nat) (f:LA):=Iter (xc5 j n g (xa6 c) (xdJ n d c a b) (xdJ n d c a b)) (0,d,c,g,h,i,a,List.take c b,e,f)
def xfW (j n e:Int) (f g h i a:Nat) (b:LA) (c:Nat) (d:LA):=(xhS j n e f g h i a b c d).getD (0,0,0,0,0,[],0,[],0)
def xhR (j n e:Int) (f g h i a:Nat) (b:LA) (c:Nat) (d:LA):=(xfW j n e f g h i a b c d).snd
def xe2 (j n e:Int) (f g h i a:Nat) (b:LA) (c:Nat) (d:LA):=(xhR j n e f g h i a b c d).fst
def xhQ (j n e:Int) (f g h i a:Nat) (b:LA) (c:Nat) (d:LA):=(xhR j n e f g h i a b c d).snd
def xe1 (j n e:Int) (f g h i a:Nat) (b:LA) (c:Nat) (d:LA):=(xhQ j n e f g h i a b c d).fst
def xfV (j n e:Int) (f g h i a:Nat) (b:LA) (c:Nat) (d:LA):=(xhQ j n e f g h i a b c d).snd
def xe0 (j n e:Int) (f g h i a:Nat) (b:LA) (c:Nat) (d:LA):=i64.wrap ((↑(xe1 j n e f g h i a b c d):Int) - 1)
def xfU (j n e:Int) (f g h i a:Nat) (b:LA) (c:Nat) (d:LA):=(xfV j n e f g h i a b c d).snd
def xhP (j n e:Int) (f g h i a:Nat) (b:LA) (c:Nat) (d:LA):=(xfU j n e f g h i a b c d).snd
def xgv (j n e:Int) (f g h i a:Nat) (b:LA) (c:Nat) (d:LA):=(xhP j n e f g h i a b c d).fst
def xiU (j n e:Int) (f g h i a:Nat) (b:LA) (c:Nat) (d:LA):=(xhP j n e f g h i a b c d).snd
def xc4 (j n f:Int) (g e h i a:Nat) (b:LA) (c:Nat) (d:LA):=(xiU j n f g e h i a b c d).fst==e
def xiT (j n f:Int) (e g h i a:Nat) (b:LA) (c:Nat) (d:LA):=decide (xa6 e<(xgv j n f e g h i a b c d).length)
def xex (j n f:Int) (e g h i a:Nat) (b:LA) (c:Nat) (d:LA):=((xgv j n f e g h i a b c d).getD (xa6 e) .top).cells
def xe3 (j n e:Int) (f g h i a:Nat) (b:LA) (c:Nat) (d:LA):=(xiU j n e f g h i a b c d).snd
def xd7 (j n f:Int) (e g h i a:Nat) (b:LA) (c:Nat) (d:LA):=(xgv j n f e g h i a b c d).set (xa6 e) (AV.agg (List.take 1 (xex j n f e g h i a b c d)++[AV.int .i64 (i64.wrap (((xex j n f e g h i a b c d).getD 1 .top).toInt - xdJ n f e a b))]++List.drop 2 (xex j n f e g h i a b c d)))
def xfD {T:Type} (j n g:Int) (f e h i a:Nat) (b:LA) (c:Nat) (d:LA) (δ:T) (κl:(Int×Nat×Nat×Nat×Nat×Nat×LA×Nat×LA)->T) (κr:(Int×Nat×Nat×Nat×Nat×LA×Nat×LA×Nat)->T):T:=br (decide (g>n)) (br (a==e) (br (a==e&&(decide (0<=i64.wrap ((↑f:Int) - 1))&&decide (i64.wrap ((↑f:Int) - 1)<(↑f:Int)))) (br (a==e) (br (a==e) (br (a==e&&(decide (xa6 f<b.length)&&xG1 (Sh.int .i64) ((b.getD (xa6 f) .top).cells.getD 1 .top))) (br ((xhS j n g f e h i a b c d).isSome) (br (xc4 j n g f e h i a b c d) (br (xc4 j n g f e h i a b c d) (br (xc4 j n g f e h i a b c d&&(xiT j n g f e h i a b c d&&xG1 (Sh.int .i64) ((xex j n g f e h i a b c d).getD 1 .top))) (br (xc4 j n g f e h i a b c d) (br (xc4 j n g f e h i a b c d) (br (xc4 j n g f e h i a b c d&&xiT j n g f e h i a b c d) (br (e==e) (br (e==e) (br (e==e&&(decide (xa6 f<(xd7 j n g f e h i a b c d).length)&&xG1 (Sh.int .i64) (((xd7 j n g f e h i a b c d).getD (xa6 f) .top).cells.getD 1 .top))) (br ((((xd7 j n g f e h i a b c d).getD (xa6 f) .top).cells.getD 1 .top).toInt==0) (br (e==xe2 j n g f e h i a b c d) (br (e==xe2 j n g f e h i a b c d&&(decide (0<=xe0 j n g f e h i a b c d)&&decide (xe0 j n g f e h i a b c d<=(↑(xe1 j n g f e h i a b c d):Int))&&true)) (κl (i64.wrap ((xfW j n g f e h i a b c d).fst - xdJ n g f a b),(xe0 j n g f e h i a b c d).toNat - 0,xe2 j n g f e h i a b c d,(xfU j n g f e h i a b c d).fst,(xfV j n g f e h i a b c d).fst,e,List.take ((xe0 j n g f e h i a b c d).toNat - 0) (xd7 j n g f e h i a b c d),(xe3 j n g f e h i a b c d).snd,(xe3 j n g f e h i a b c d).fst)) δ) δ) (κl (i64.wrap ((xfW j n g f e h i a b c d).fst - xdJ n g f a b),xe1 j n g f e h i a b c d,xe2 j n g f e h i a b c d,(xfU j n g f e h i a b c d).fst,(xfV j n g f e h i a b c d).fst,e,List.take (xe1 j n g f e h i a b c d) (xd7 j n g f e h i a b c d),(xe3 j n g f e h i a b c d).snd,(xe3 j n g f e h i a b c d).fst))) δ) δ) δ) δ) δ) δ) δ) δ) δ) δ) δ) δ) δ) δ) δ) (κr (g,e,f,i,h,b,a,d,c))
def xce (j n:Int):StT (Int×Nat×Nat×Nat×Nat×Nat×LA×Nat×LA) (Int×Nat×Nat×Nat×Nat×LA×Nat×LA×Nat):=fun (e,f,g,h,i,a,b,c,d)=>xfD j n e f g h i a b c d none inL inR
def xo5:=xqb.l 71 5 [] [(7,xiV.lp)] Tryz.f89 0 (lk1 xiV.ok) [0,1,2,3,4] [] [(3,0,0)] (q5 qI qI (xHZ 0 0 0 0) (xHZ 1 0 0 0) (xHZ 2 0 0 0)) (q5 (qB 0 1 3 (q1 qI)) (xH0 0 1 125 false false (q1 (pOslV 3 0))) (xH0 0 1 97 false false (q1 (pOslV 4 0))) (pBoxV 2 127 false true xHQ) (pBoxV 2 56 false true xHQ)) (fun (j,n,_,_,_,_) ((e,_),((f,g),_),((h,i),_),(a,b),(c,d),_)=>(xce j n,(e,g,f,i,h,a,b,c,d),fun p=>(.leaf (.exit 0) [] [bF 0 1 3 [AV.int .i64 p.1],⟨0,1,125,[AV.osl 3 p.2.1 0 p.2.2.1],false,false⟩,⟨0,1,97,[AV.osl 4 p.2.2.2.1 0 p.2.2.2.2.1],false,false⟩,bF p.2.2.2.2.2.2.1 2 127 p.2.2.2.2.2.1,bF p.2.2.2.2.2.2.2.2 2 56 p.2.2.2.2.2.2.2.1]))) (0,0,0,0,0,[],0,[],0) fun (j,n,_,_,_,_) _ (e,g,f,i,h,a,b,c,d)=>(((j,n,(),(),(),()),((e,()),((f,g),()),((h,i),()),(a,b),(c,d),())),xfD j n e g f i h a b c d none)
def xgT:Env:=xqb.E.fn 71 5 (lsOf []) (xHp [(7,xiV.lp),(3,xo5.lp)])
theorem xsN:xG3 P0 (xHL.at 5) xgT:=xqb.ok.fn
theorem xrv:LoOk P0 (xHL.at xgT.pin) xgT (Tryz.f89.body.getD .skip):=xlA (ls:=[xG7 Tryz.f89 0,xG7 Tryz.f89 1]) (by kernel_rfl) (lkC xo5.ok (lkC xiV.ok lkN))
def xkp (a n h:Int) (b c:Nat) (d e:LA):=Iter (xce a n) (n,b+1,1,c,0,1,List.take (b+1) (d++[AV.agg [AV.int .i64 a,AV.int .i64 (i64.wrap (n - h))]]),0,e)
def xkq (a n h:Int) (b c:Nat) (d e:LA):=Iter (xce a n) (h,b,0,c,0,0,List.take b d,0,e)
def xkk (a n h:Int) (b c:Nat) (d e:LA):=(xkp a n h b c d e).getD (0,0,0,0,0,[],0,[],0)
def xko (a n h:Int) (b c:Nat) (d e:LA):=(xkq a n h b c d e).getD (0,0,0,0,0,[],0,[],0)
def xk7 (a n h:Int) (b c:Nat) (d e:LA):=(xkk a n h b c d e).snd
def xkn (a n h:Int) (b c:Nat) (d e:LA):=(xko a n h b c d e).snd
def xk4 (a n h:Int) (b c:Nat) (d e:LA):=(xk7 a n h b c d e).snd
def xkm (a n h:Int) (b c:Nat) (d e:LA):=(xkn a n h b c d e).snd
def xk3 (a n h:Int) (b c:Nat) (d e:LA):=(xk4 a n h b c d e).snd
def xkl (a n h:Int) (b c:Nat) (d e:LA):=(xkm a n h b c d e).snd
def xk2 (a n h:Int) (b c:Nat) (d e:LA):=(xk3 a n h b c d e).snd
def xkj (a n h:Int) (b c:Nat) (d e:LA):=(xkl a n h b c d e).snd
def xk1 (a n h:Int) (b c:Nat) (d e:LA):=(xk2 a n h b c d e).snd
def xk8 (a n h:Int) (b c:Nat) (d e:LA):=(xkj a n h b c d e).snd
def xk0 (a n h:Int) (b c:Nat) (d e:LA):=(xk1 a n h b c d e).snd
def xk6 (a n h:Int) (b c:Nat) (d e:LA):=(xk8 a n h b c d e).snd
def xkx (a n h:Int) (b c:Nat) (d e:LA):=(xk0 a n h b c d e).snd
def xk5 (a n h:Int) (b c:Nat) (d e:LA):=(xk6 a n h b c d e).snd
def xjP {T:Type} (a n h:Int) (b d:Nat) (c e:LA) (δ:T) (κ:Int×Nat×Nat×Nat×Nat×LA×Nat×LA×Nat->T):T:=br (decide (n>h)) (br (rmB b c 1 16) (br ((xkp a n h b d c e).isSome) (κ ((xkk a n h b d c e).fst,(xk7 a n h b d c e).fst,(xk4 a n h b d c e).fst,(xk3 a n h b d c e).fst,(xk2 a n h b d c e).fst,(xk1 a n h b d c e).fst,(xk0 a n h b d c e).fst,(xkx a n h b d c e).fst,(xkx a n h b d c e).snd)) δ) δ) (br ((xkq a n h b d c e).isSome) (κ ((xko a n h b d c e).fst,(xkn a n h b d c e).fst,(xkm a n h b d c e).fst,(xkl a n h b d c e).fst,(xkj a n h b d c e).fst,(xk8 a n h b d c e).fst,(xk6 a n h b d c e).fst,(xk5 a n h b d c e).fst,(xk5 a n h b d c e).snd)) δ)
def xki (a n h:Int) (b c:Nat) (d e:LA):=xjP a n h b c d e none some
theorem xwg (a n h:Int) (b c:Nat) (d e:LA):Enc (fun (p:Int×Nat×Nat×Nat×Nat×LA×Nat×LA×Nat)=>(((AV.tuple [],([⟨0,1,3,[AV.int .i64 p.1],false,true⟩,⟨0,1,125,[AV.osl 3 p.2.1 0 p.2.2.1],false,false⟩,⟨0,1,97,[AV.osl 4 p.2.2.2.1 0 p.2.2.2.2.1],false,false⟩,⟨p.2.2.2.2.2.2.1,2,127,p.2.2.2.2.2.1,false,true⟩,⟨p.2.2.2.2.2.2.2.2,2,56,p.2.2.2.2.2.2.2.1,false,true⟩]:List Box))):(AV×List Box))) (xki a n h b c d e) (XFM P0 xgT Tryz.f89 (Tryz.f89.body.getD .skip) [AV.int .i64 a,AV.int .i64 n,AV.own (0:Id) 0 0 0,AV.own (1:Id) 0 0 0,AV.own (2:Id) 0 0 0] [{ ver:=0,sz:=1,ty:=(3:TypeId),xs:=[AV.int .i64 h],frz:=false,pm:=true },{ ver:=0,sz:=1,ty:=(125:TypeId),xs:=[AV.osl (3:Id) 0 0 b],frz:=false,pm:=false },{ ver:=0,sz:=1,ty:=(97:TypeId),xs:=[AV.osl (4:Id) 0 0 c],frz:=false,pm:=false },{ ver:=0,sz:=2,ty:=(127:TypeId),xs:=d,frz:=false,pm:=true },{ ver:=0,sz:=2,ty:=(56:TypeId),xs:=e,frz:=false,pm:=true }]):=by
 have h:XFM P0 xgT Tryz.f89 (Tryz.f89.body.getD .skip) [AV.int .i64 a,AV.int .i64 n,AV.own (0:Id) 0 0 0,AV.own (1:Id) 0 0 0,AV.own (2:Id) 0 0 0] [{ ver:=0,sz:=1,ty:=(3:TypeId),xs:=[AV.int .i64 h],frz:=false,pm:=true },{ ver:=0,sz:=1,ty:=(125:TypeId),xs:=[AV.osl (3:Id) 0 0 b],frz:=false,pm:=false },{ ver:=0,sz:=1,ty:=(97:TypeId),xs:=[AV.osl (4:Id) 0 0 c],frz:=false,pm:=false },{ ver:=0,sz:=2,ty:=(127:TypeId),xs:=d,frz:=false,pm:=true },{ ver:=0,sz:=2,ty:=(56:TypeId),xs:=e,frz:=false,pm:=true }]=xjP a n h b c d e none (fun (p:Int×Nat×Nat×Nat×Nat×LA×Nat×LA×Nat)=>some (((AV.tuple [],([⟨0,1,3,[AV.int .i64 p.1],false,true⟩,⟨0,1,125,[AV.osl 3 p.2.1 0 p.2.2.1],false,false⟩,⟨0,1,97,[AV.osl 4 p.2.2.2.1 0 p.2.2.2.2.1],false,false⟩,⟨p.2.2.2.2.2.2.1,2,127,p.2.2.2.2.2.1,false,true⟩,⟨p.2.2.2.2.2.2.2.2,2,56,p.2.2.2.2.2.2.2.1,false,true⟩]:List Box))):(AV×List Box))):=by kernel_rfl
 rw [h];unfold xki xjP;repeat' (first|refine Enc.br ?_ ?_|exact Enc.none|exact Enc.some rfl)
end Go.Sim.M
namespace Go.Sim
open Go.RowKit
theorem GoodM.aged {P:Program} {Inv:IV} {f:FuncId} {args:List AV} {H E:List Box} {p q v k t s y:Nat} {xs:List AV}
  (h:GoodM P Inv f args H (.tuple []) E) (hz:∀ bx,H[q]?=some bx->bx.ver=0)
  (ep:E[p]?=some ⟨0,1,t,[.osl (.b q) v 0 k],false,false⟩) (eq:E[q]?=some ⟨v,s,y,xs,false,true⟩) (pt:isC t=false) (py:isC y=false)
  (ho:∀ n bx,E[n]?=some bx->isC bx.ty=false/\(n=p\/n=q\/bx.pm=true\/∃ n' v' k',n'≠q/\bx.xs=[.osl (.b n') v' 0 k'])) :
  GoodM P Inv f args H (.tuple []) ((E.set p ⟨0,1,t,[.osl (.b q) 1 0 k],false,false⟩).set q ⟨1,s,y,xs,false,true⟩):=by
 have pq:p≠q:=fun e=>by
  subst e;rw [ep] at eq;simp at eq
 refine ⟨h.1,fun w0 w A M vs hI hB hR Y=>(h.2 w0 w A M vs hI hB hR Y).mono ?_⟩
 rintro e w' ⟨u,A',M',rfl,h1,h2,h3,h4,h5⟩;let M'':Id->Option MB:=fun id=>if id=.b q then (M' id).map fun m=>⟨m.b,1,m.sz,m.cap,m.ty⟩ else M' id
 have eo:∀ id,id≠.b q->M'' id=M' id:=fun id g1=>if_neg g1
 have e4:∀ m,M' (.b q)=some m->M'' (.b q)=some ⟨m.b,1,m.sz,m.cap,m.ty⟩:=fun m hm=>(if_pos rfl).trans (by rw [hm];rfl)
 have O:∀ id m1,M'' id=some m1->∃ m0,M' id=some m0/\m1.b=m0.b/\m1.cap=m0.cap:=fun id m1 J=>by
  by_cases g3:id=.b q
  . subst g3;cases hm:M' (.b q) with
    | none=>simp [M'',hm] at J
    | some m=>rw [e4 m hm] at J;simp only [z6] at J;subst J;exact ⟨m,rfl,rfl,rfl⟩
  . exact ⟨m1,eo id g3▸J,rfl,rfl⟩
 have Q:∀ n bx m,E[n]?=some bx->M' (.b n)=some m->BoxAt w' A' M' w0.heap.size (.b n) m bx:=fun n bx m hn hm=>by
  obtain ⟨bx',g1,g2⟩:=h4.box _ m hm;rw [xbP,hn] at g1;cases g1;exact g2
 have hv:∀ m,M' (.b q)=some m->v=m.ver:=fun m hm=>(Q q _ m eq hm).ver
 have hx:∀ c n' v' k',n'≠q->Rel w' A' M' c (.osl (.b n') v' 0 k')->Rel w' A' M'' c (.osl (.b n') v' 0 k'):=fun c n' v' k' hn hr=>by
  obtain ⟨m0,g1,g2,g3,g4⟩:=Rel.osl_inv hr;exact .osl c _ v' 0 k' m0 ((eo _ fun e=>hn (by cases e;rfl)).trans g1) g2 g3 g4
 have hy:∀ c,Rel w' A' M' c (.osl (.b q) v 0 k)->Rel w' A' M'' c (.osl (.b q) 1 0 k):=fun c hr=>by
  obtain ⟨m0,g1,g2,g3,g4⟩:=Rel.osl_inv hr;exact .osl c _ 1 0 k _ (e4 m0 g1) (zd _) g3 fun _=>g4 (hv m0 g1)
 have hb:∀ id (bx bx':Box) (m m':MB),isC bx.ty=false->bx'=⟨m'.ver,bx.sz,bx.ty,bx'.xs,bx.frz,bx.pm⟩->m'=⟨m.b,m'.ver,m.sz,m.cap,m.ty⟩->bx'.xs.length=bx.xs.length->(∀ x,x∈bx'.xs->x.okElem m.sz=true) ->
   (∀ c i j,Rel w' A' (MP M' bx.pm) c ((bx.xs.getD i .top).cells.getD j .top)->Rel w' A' (MP M'' bx.pm) c ((bx'.xs.getD i .top).cells.getD j .top))->BoxAt w' A' M' w0.heap.size id m bx->BoxAt w' A' M'' w0.heap.size id m' bx':=fun id bx bx' m m' U aa ad hl ab hc g=>by
  rw [aa,ad];have V:xG5 m.ty=false:=g.nomap (xbe U);refine ⟨rfl,g.sz,g.ty,g.capm,hl▸g.fits,ab,g.low,g.lt,fun h0=>?_,g.guard⟩
  obtain ⟨c,c1,c2,c3⟩:=g.cells h0;refine ⟨c,.of V (c1.plain V),c2,fun i j hi hj=>?_⟩
  have:=c3 i j (hl▸hi) hj;rw [xaS U,xbt U] at this;rw [xaS U,xbt (bx:=⟨m'.ver,bx.sz,bx.ty,bx'.xs,bx.frz,bx.pm⟩) U];exact hc _ i j this
 have ht:∀ a v1 v2 d,(∀ c,Rel w' A' M' c (.osl a v1 0 d)->Rel w' A' M'' c (.osl a v2 0 d))->∀ c i j,Rel w' A' M' c ((([.osl a v1 0 d]:List AV).getD i .top).cells.getD j .top)->Rel w' A' M'' c ((([.osl a v2 0 d]:List AV).getD i .top).cells.getD j .top):=fun a v1 v2 d hh c i j hr=>by
  match i,j with
  | 0,0=>exact hh c hr
  | 0,j+1=>exact .top _
  | i+1,0=>exact .top _
  | i+1,j+1=>exact .top _
 have hg:∀ n bx,E[n]?=some bx->∃ bx',((E.set p ⟨0,1,t,[.osl (.b q) 1 0 k],false,false⟩).set q ⟨1,s,y,xs,false,true⟩)[n]?=some bx'/\isC bx'.ty=false/\(∀ m m1,M' (.b n)=some m->M'' (.b n)=some m1->BoxAt w' A' M'' w0.heap.size (.b n) m1 bx'):=fun n bx hn=>by
  have hn':=xc0 hn;obtain ⟨hC,hc⟩:=ho n bx hn;by_cases g1:n=q
  . subst g1;rw [hn] at eq;cases eq;refine ⟨_,zL (by simpa using hn'),py,fun m m1 e1 e2=>?_⟩
    rw [e4 m e1] at e2;cases e2;have g:=Q n _ m hn e1;exact hb _ ⟨v,s,y,xs,false,true⟩ ⟨1,s,y,xs,false,true⟩ m _ py rfl rfl rfl g.ok (fun c i j hr=>hr) g
  . have ge:∀ m m1,M' (.b n)=some m->M'' (.b n)=some m1->m1=m:=fun m m1 e1 e2=>by
     rw [eo _ fun e=>g1 (by cases e;rfl),e1] at e2;cases e2;rfl
    by_cases g2:n=p
    . subst g2;rw [hn] at ep;cases ep;refine ⟨_,(zX (Ne.symm g1)).trans (zL hn'),pt,fun m m1 e1 e2=>?_⟩
      cases ge m m1 e1 e2;have g:=Q n _ m hn e1;have hv:0=m.ver:=g.ver;have hz:m.sz=1:=g.sz.symm;exact hb _ ⟨0,1,t,[.osl (.b q) v 0 k],false,false⟩ ⟨0,1,t,[.osl (.b q) 1 0 k],false,false⟩ m m pt (by rw [<-hv]) rfl rfl (fun x hx=>by simp only [zv] at hx;subst hx;rw [hz];rfl) (ht _ _ _ _ hy) g
    . refine ⟨bx,(zX (Ne.symm g1)).trans ((zX (Ne.symm g2)).trans hn),hC,fun m m1 e1 e2=>?_⟩
      cases ge m m1 e1 e2;have g:=Q n _ m hn e1;refine hb _ bx bx m m hC (by rw [<-g.ver]) rfl rfl g.ok ?_ g
      rcases hc with hc|hc|hc|⟨n',v',k',hc,hd⟩
      . exact absurd hc g2
      . exact absurd hc g1
      . rw [hc];exact fun c i j hr=>hr
      . cases ae:bx.pm with
        | true=>exact fun c i j hr=>hr
        | false=>rw [hd];exact ht _ _ _ _ fun c=>hx c n' v' k' hc
 have hR':HR w' A' M'' w0.heap.size ((E.set p ⟨0,1,t,[.osl (.b q) 1 0 k],false,false⟩).set q ⟨1,s,y,xs,false,true⟩):=by
  refine ⟨fun id m1 J=>?_,fun id id' m1 m2 k1 k2 c1 c2 he=>?_,h4.lt⟩
  . obtain ⟨m0,g1,_⟩:=O id m1 J;obtain ⟨bx,q1,q2⟩:=h4.box _ m0 g1;cases id with
    | r n i j =>
     rw [eo _ (fun e=>by cases e),g1] at J
     cases J;obtain ⟨c0,r1,_⟩:=xmf q1;obtain ⟨bx',r2,r3,_⟩:=hg n c0 r1;rw [xeg r1 (ho n c0 r1).1] at q1;cases q1;exact ⟨_,xeg r2 r3,hb _ tombB tombB m1 m1 rfl (by rw [<-q2.ver]) rfl rfl q2.ok (fun c i j hr=>hr) q2⟩
    | b n =>
     obtain ⟨bx',r2,_,r3⟩:=hg n bx q1;exact ⟨bx',r2,r3 _ _ g1 J⟩
  . obtain ⟨n1,a1,a2,a3⟩:=O id m1 k1;obtain ⟨n2,b1,b2,b3⟩:=O id' m2 k2;exact h4.inj id id' n1 n2 a1 b1 (a3▸c1) (b3▸c2) (by rw [<-a2,<-b2,he])
 refine ⟨u,A',M'',rfl,h1,h2,⟨h3.size,h3.keep,h3.less,h3.more,fun id m ac hm=>?_,fun id m1 J h0=>?_⟩,hR',?_⟩
 . obtain ⟨m',g1,g2⟩:=h3.ids id m ac hm;by_cases q4:id=.b q
   . subst q4;obtain ⟨bx,r1,r2⟩:=hR.box _ m hm;exact ⟨_,e4 m' g1,.inr (by rw [<-r2.ver,hz bx r1];exact Nat.zero_lt_one)⟩
   . exact ⟨m',(eo id q4).trans g1,g2⟩
 . obtain ⟨m0,g1,g2,g3⟩:=O id m1 J;rw [g2];exact h3.src id m0 g1 (g3▸h0)
 . obtain ⟨Z,rfl,q1,_⟩:=h5.tuple_inv;exact .tuple Z [] q1 (by simp)
namespace M
open Go.Proofs
noncomputable def set2 (q n h:Int) (ns no:Nat) (sx ox:List AV):Option (Int×Nat×Nat×List AV×List AV):=(xki q n h ns no sx ox).bind fun p =>
 br (Nat.beq p.2.1 p.2.2.2.2.2.2.1&&Nat.beq p.2.2.2.1 p.2.2.2.2.2.2.2.2) (some (p.1,p.2.2.1,p.2.2.2.2.1,p.2.2.2.2.2.1,p.2.2.2.2.2.2.2.1)) none
noncomputable def xBX:List AV->List Box->Option (Bool×AV×List Box):=omOf (xHN (sEq (pInt IntKind.i64)) (xHN (sEq (pInt IntKind.i64)) (xHN (sEq (xHZ 0 0 0 0)) (xHN (sEq (xHZ 1 0 0 0)) (xHN (sEq (xHZ 2 0 0 0)) xHP)))))
 (xHM (xH0 0 1 3 false true (xHM (pInt IntKind.i64) xHO)) (xHM (xH0 0 1 125 false false (xHM (xHY 3 0 0) xHO)) (xHM (xH0 0 1 97 false false (xHM (xHY 4 0 0) xHO)) (xHM (xH0 0 2 127 false true xHQ) (xHM (xH0 0 2 56 false true xHQ) xHO)))))
 fun (q,(n,(_,(_,(_,_))))) ((h,_),((ns,_),((no,_),(sx,(ox,_)))))=>((set2 q n h ns no sx ox).isSome,(.tuple [],[⟨0,1,3,[.int .i64 ((set2 q n h ns no sx ox).getD (0,0,0,[],[])).1],false,true⟩,⟨0,1,125,[.osl (.b 3) 1 0 ((set2 q n h ns no sx ox).getD (0,0,0,[],[])).2.1],false,false⟩,⟨0,1,97,[.osl (.b 4) 1 0 ((set2 q n h ns no sx ox).getD (0,0,0,[],[])).2.2.1],false,false⟩,⟨1,2,127,((set2 q n h ns no sx ox).getD (0,0,0,[],[])).2.2.2.1,false,true⟩,⟨1,2,56,((set2 q n h ns no sx ox).getD (0,0,0,[],[])).2.2.2.2,false,true⟩]))
theorem xFe:OmOk P0 xHL 89 xBX:=xlT fun vv bb rr Z hh=>by
 obtain ⟨J,⟨n,⟨_,⟨_,⟨_,_⟩⟩⟩⟩⟩:=vv;obtain ⟨⟨h,_⟩,⟨⟨ns,_⟩,⟨⟨no,_⟩,⟨sx,⟨ox,_⟩⟩⟩⟩⟩:=bb;obtain ⟨O,U⟩:=Prod.mk.inj hh;cases hs:xki J n h ns no sx ox with
 | none=>rw [show set2 J n h ns no sx ox=none by unfold set2;rw [hs];rfl] at O;simp at O
 | some p =>
  have V:set2 J n h ns no sx ox=br (Nat.beq p.2.1 p.2.2.2.2.2.2.1&&Nat.beq p.2.2.2.1 p.2.2.2.2.2.2.2.2) (some (p.1,p.2.2.1,p.2.2.2.2.1,p.2.2.2.2.2.1,p.2.2.2.2.2.2.2.1)) none:=by unfold set2;rw [hs];rfl
  cases ht:Nat.beq p.2.1 p.2.2.2.2.2.2.1&&Nat.beq p.2.2.2.1 p.2.2.2.2.2.2.2.2 with
  | false=>rw [V,ht] at O;simp [br] at O
  | true =>
   rw [ht] at V;have Y:set2 J n h ns no sx ox=some (p.1,p.2.2.1,p.2.2.2.2.1,p.2.2.2.2.2.1,p.2.2.2.2.2.2.2.1):=V;rw [Y] at U;simp only [zh] at U;simp only [zf] at ht;have e1:=zg ht.1;have e2:=zg ht.2;have hx:=xwg J n h ns no sx ox p hs;have hg:GoodM P0 xHL 89 _ _ _ _:=xg1 (p:=xgT.pin) (xiH xHc (xHd P0 _) rfl xsN rfl Tryz.func89 rfl (by kernel_rfl) xrv hx)
   rw [<-e1,<-e2] at hg;have Q:=GoodM.aged (p:=1) (q:=3) hg (fun bx hb=>by cases hb;rfl) rfl rfl rfl rfl (fun n bx hn=>by
    match n with
    | 0=>cases hn;exact ⟨rfl,.inr (.inr (.inl rfl))⟩
    | 1=>cases hn;exact ⟨rfl,.inl rfl⟩
    | 2=>cases hn;exact ⟨rfl,.inr (.inr (.inr ⟨_,_,_,by decide,rfl⟩))⟩
    | 3=>cases hn;exact ⟨rfl,.inr (.inl rfl)⟩
    | 4=>cases hn;exact ⟨rfl,.inr (.inr (.inl rfl))⟩
    | n+5=>simp at hn)
   have Q:=GoodM.aged (p:=2) (q:=4) Q (fun bx hb=>by cases hb;rfl) rfl rfl rfl rfl (fun n bx hn=>by
    match n with
    | 0=>cases hn;exact ⟨rfl,.inr (.inr (.inl rfl))⟩
    | 1=>cases hn;exact ⟨rfl,.inr (.inr (.inr ⟨_,_,_,by decide,rfl⟩))⟩
    | 2=>cases hn;exact ⟨rfl,.inl rfl⟩
    | 3=>cases hn;exact ⟨rfl,.inr (.inr (.inl rfl))⟩
    | 4=>cases hn;exact ⟨rfl,.inr (.inl rfl)⟩
    | n+5=>simp at hn)
   obtain ⟨rfl,rfl⟩:=Prod.mk.inj U;exact Q
noncomputable def ESet:Env:=xqb.E.withM 89 xBX
theorem xDn:xG3 P0 xHL ESet:=xqb.ok.withM xFe
noncomputable def xyL:EO:=EO.mk ESet xDn
end M
end Go.Sim
namespace Go.Sim.M
open Go.IntKind (i64 u64 u8)
open Go.RowKit Go.Proofs
def xkb (a:LA) (h b:Int) (f c:Nat) (g:Int) (d e:LA):Int:=if 0>(gC a b 1).toInt then 0 else (gC a b 1).toInt
def xka (f:LA) (h g:Int) (d a:Nat) (e:Int) (b c:LA):=set2 (gC f g 0).toInt (if 1048576<xkb f h g d a e b c then 1048576 else xkb f h g d a e b c) e a d c b
def xj9 (f:LA) (g h:Int) (d a:Nat) (e:Int) (b c:LA):=(xka f g h d a e b c).getD (0,0,0,[],[])
def xj8 (f:LA) (g h:Int) (d a:Nat) (e:Int) (b c:LA):=(xj9 f g h d a e b c).snd
def xj6 (f:LA) (g h:Int) (d a:Nat) (e:Int) (b c:LA):=(xj8 f g h d a e b c).fst
def xj7 (f:LA) (g h:Int) (d a:Nat) (e:Int) (b c:LA):=(xj8 f g h d a e b c).snd
def xj5 (f:LA) (g h:Int) (d a:Nat) (e:Int) (b c:LA):=(xj7 f g h d a e b c).snd
def xh0 {T:Type} (g:LA) (h e:Int) (d a:Nat) (f:Int) (b c:LA) (δ:T) (κl:(Int×Nat×Nat×Int×LA×LA)->T) (κr:(Nat×Int×Nat×LA×LA)->T):T:=br (decide (e<h)) (br (ixI g e) (br (ixT g e 2 [Sh.int .i64,Sh.int .i64] 0) (br ((xka g h e d a f b c).isSome) (κl (i64.wrap (e+1),(xj7 g h e d a f b c).fst,xj6 g h e d a f b c,(xj9 g h e d a f b c).fst,(xj5 g h e d a f b c).snd,List.take (xj6 g h e d a f b c) (xj5 g h e d a f b c).fst)) δ) δ) δ) (κr (d,f,a,b,c))
def xdF (f:LA) (g:Int):StT (Int×Nat×Nat×Int×LA×LA) (Nat×Int×Nat×LA×LA):=fun (h,d,a,e,b,c)=>xh0 f g h d a e b c none inL inR
def xob:=xyL.l 30 0 [] [] Tryz.f70 0 lk0 [3,4,6,10,11,12] [3,6] [(3,2,56),(4,2,127),(4,0,0)] (q6 (xHZ 0 0 0 0) (xHZ 1 0 0 0) (xHq 89 (q3 (xHZ 2 0 0 0) (xHZ 1 0 0 0) (xHZ 0 0 0 0))) (qL 2) qI qI) (q5 (xH0 0 1 97 false false (q1 (xHY 3 0 0))) (xH0 0 1 125 false false (q1 (xHY 4 0 0))) (qB 0 1 3 (q1 qI)) (qB 0 2 56 xHQ) (qB 0 2 127 xHQ)) (fun (_,_,(_,_,_,_),f,g,h,_) ((d,_),(a,_),(e,_),b,c,_)=>(xdF f g,(h,d,a,e,b,c),fun p=>(.leaf (.exit 0) [AV.own 0 0 0 0,AV.func 89 [AV.own 1 0 0 0,AV.own 2 0 0 0,AV.own 0 0 0 0]] [⟨0,1,97,[AV.osl 3 0 0 p.1],false,false⟩,bF 0 1 3 [AV.int .i64 p.2.1],⟨0,1,125,[AV.osl 4 0 0 p.2.2.1],false,false⟩,bF 0 2 56 p.2.2.2.1,bF 0 2 127 p.2.2.2.2]))) (0,0,0,[],[]) fun (_,_,(_,_,_,_),f,g,_,_) _ (h,d,a,e,b,c)=>((((),(),((),(),(),()),f,g,h,()),((d,()),(a,()),(e,()),b,c,())),xh0 f g h d a e b c none)
def xm2 (l:LA):=Iter (xdF l (↑l.length:Int)) (0,0,0,0,[],[])
def xm1 (l:LA):=(xm2 l).getD (0,0,0,[],[])
def xm0 (l:LA):=(xm1 l).snd
def xmx (l:LA):=(xm0 l).snd
def xmZ (l:LA):=(xmx l).snd
def xmY (l:LA):=set2 1099511627776 0 (xm0 l).fst (xmx l).fst (xm1 l).fst (xmZ l).snd (xmZ l).fst
def xmX (l:LA):=((xmY l).getD (0,0,0,[],[])).snd.snd
def xhs (l:LA):=(xmX l).fst
def xht (l:LA):=(xmX l).snd.snd
def xnD {T:Type} (l:LA) (δ:T) (κ:LA->T):T:=br ((xm2 l).isSome) (br ((xmY l).isSome) (br ((xhs l).beq (xht l).length&&(decide (xhs l<4611686018427387904)&&(xht l).all isP)) (br (decide (0+xhs l<=(srtP (xht l)).length)&&true) (κ (List.take (xhs l) (List.drop 0 (srtP (xht l))))) δ) δ) δ) δ
def xmW (l:LA):=xnD l none some
def xEt:EO:=xyL.f Tryz.func70 30 0 [] [(6,xob.lp)] (lk1 xob.ok) (u1 (uL 2)) (fun (l,_) _=>xnD l) (fun _ p=>AV.list 2 p) []
def xl3 {T:Type} (a:LA) (δ:T) (κ:LA->T):T:=br ((↑a.length:Int)==1) (κ (a)) (br ((xeZ a).isSome) (br ((xmW ((xeZ a).getD [])).isSome) (κ ((xmW ((xeZ a).getD [])).getD [])) δ) δ)
def xfS (a:LA):=xl3 a none some
def xvA:EO:=xEt.f Tryz.func69 10 0 [] [] lk0 (u1 (uL 2)) (fun (a,_) _=>xl3 a) (fun _ p=>AV.list 2 p) []
def xft {T:Type} (h:LA) (i j:Int) (e:LA) (f:Int) (d:Nat) (c:Int) (a b g:LA) (δ:T) (κl:(Nat×Int×LA×LA×LA)->T) (κr:(Nat×LA)->T):T:=br (decide (c<f)) (br (ixI e c) (br (ixT e c 2 [Sh.int .i64,Sh.int .i64] 0) (br (decide (b.length*32<=140737488355328)&&decide (b.length<=4611686018427387904)) (br (decide (0+b.length<=b.length)&&true&&true&&true&&true) (br (rmB d a 1 40) (κl (d+1,i64.wrap (c+1),a++[AV.agg [AV.list 3 (List.take b.length (List.drop 0 b)),AV.int .i64 (gC e c 0).toInt,AV.int .i64 (gC e c 1).toInt]],b,g)) δ) δ) δ) δ) δ) (κr (d,a))
def xb6 (c:LA) (d e:Int) (f:LA) (g:Int):StT (Nat×Int×LA×LA×LA) (Nat×LA):=fun (b,h,a,i,j)=>xft c d e f g b h a i j none inL inR
def xfg:=xvA.l 38 0 [60] [] Tryz.f68 1 lk0 [1,5,7,11,12,13,20,21,22] [1,5,11,12,13] [(5,3,60)] (q9 (xHq 69 xHO) (xHY 0 0 0) (xHZ 1 0 0 0) (qL 2) qI qI (qL 2) qI qI) (q2 (qB 0 3 60 xHQ) (qB 0 2 124 (q1 (xHx (q2 (qL 3) (qL 2)))))) (fun (_,b,_,c,d,e,f,g,h,_) (a,((i,j,_),_),_)=>(xb6 c d e f g,(b,h,a,i,j),fun p=>(.leaf (.exit 2) [AV.func 69 [],AV.osl 0 0 0 p.1,AV.list 2 c,AV.int .i64 d,AV.int .i64 e] [bF 0 3 60 p.2]))) (0,[]) fun (_,_,_,c,d,e,f,g,_,_) _ (b,h,a,i,j)=>((((),b,(),c,d,e,f,g,h,()),(a,((i,j,()),()),())),xft c d e f g b h a i j none)
def xhB (a:LA) (e:Int) (d:Nat) (b:Int) (c:LA):=Iter (xb6 a e b ((xfS (gC a b 1).toList).getD []) (↑((xfS (gC a b 1).toList).getD []).length:Int)) (d,0,c,(gC a b 0).toList,(gC a b 1).toList)
def xhA (c:LA) (d:Int) (b:Nat) (e:Int) (a:LA):=(xhB c d b e a).getD (0,[])
def xfs {T:Type} (d:LA) (e:Int) (c:Nat) (b:Int) (a:LA) (δ:T) (κl:(Nat×Int×LA)->T) (κr:(Nat×LA)->T):T:=br (decide (b<e)) (br (ixI d b) (br (ixT d b 2 [Sh.list 3,Sh.list 2] 0) (br ((xfS (gC d b 1).toList).isSome) (br ((xhB d e c b a).isSome) (κl ((xhA d e c b a).fst,i64.wrap (b+1),(xhA d e c b a).snd)) δ) δ) δ) δ) (κr (c,a))
def xcX (c:LA) (d:Int):StT (Nat×Int×LA) (Nat×LA):=fun (b,e,a)=>xfs c d b e a none inL inR
def xkO:=xvA.l 38 0 [60] [(6,xfg.lp)] Tryz.f68 0 (lk1 xfg.ok) [1,5,11,12,13] [5] [(5,3,60)] (q5 (xHq 69 xHO) (xHY 0 0 0) (qL 2) qI qI) (q1 (qB 0 3 60 xHQ)) (fun (_,b,c,d,e,_) (a,_)=>(xcX c d,(b,e,a),fun p=>(.leaf (.exit 0) [AV.osl 0 0 0 p.1] [bF 0 3 60 p.2]))) (0,[]) fun (_,_,c,d,_,_) _ (b,e,a)=>((((),b,c,d,e,()),(a,())),xfs c d b e a none)
def xje (l:LA):=Iter (xcX ((xi2 l).getD []) (↑((xi2 l).getD []).length:Int)) (0,0,[])
def xjd (l:LA):=(xje l).getD (0,[])
def xjb (l:LA):=(xjd l).fst
def xjc (l:LA):=(xjd l).snd
def xjw {T:Type} (l:LA) (δ:T) (κ:LA->T):T:=br ((xi2 l).isSome) (br ((xje l).isSome) (br (decide (0+xjb l<=(xjc l).length)&&true) (κ (List.take (xjb l) (List.drop 0 (xjc l)))) δ) δ) δ
def xlh (l:LA):=xjw l none some
def xEu:EO:=xvA.f Tryz.func68 38 0 [60] [(6,xfg.lp),(3,xkO.lp)] (lks (lkC xkO.ok (lkC xfg.ok lkN))) (u2 (uL 3) (sEq (xHq (69:FuncId) xHO))) (fun (l,_,_) _=>xjw l) (fun _ p=>AV.list 3 p) []
def xne {T:Type} (l:LA) (δ:T) (κ:LA->T):T:=br ((xlh l).isSome) (κ ((xlh l).getD [])) δ
def xcq (l:LA):=xne l none some
def xEv:EO:=xEu.f Tryz.func38 5 0 [] [] lk0 (u1 (uL 3)) (fun (l,_) _=>xne l) (fun _ p=>AV.list 3 p) []
def xhe (b a:Bool):Int:=(br (b) (((-1))) (br (a) ((1)) ((0))))
def xwE {T:Type} (b a:Bool) (δ:T) (κ:Int->T):T:=br (b) (κ ((-1))) (br (a) (κ (1)) (κ (0)))
def xEw:EO:=xEv.fT Tryz.func81 7 0 [] [] lk0 (fun (b,a,_)=>xwE b a none) (u2 (sEq pBool) (sEq pBool)) (fun (b,a,_)=>xhe b a) (fun _ p=>(AV.int .i64 p))
def xgW (a b:Int) (c:List UInt8) (d e:Int) (f:List UInt8):Int:=(br (a != d) ((xhe (decide (a<d)) (decide (a>d)))) (br (b != e) ((xhe (decide (b<e)) (decide (b>e)))) ((xhe (Op.bytesLess c f) !(Op.bytesLess c f || c==f)))))
def xtM {T:Type} (a b:Int) (c:List UInt8) (d e:Int) (f:List UInt8) (δ:T) (κ:Int->T):T:=br (a != d) (κ (xhe (decide (a<d)) (decide (a>d)))) (br (b != e) (κ (xhe (decide (b<e)) (decide (b>e)))) (κ (xhe (Op.bytesLess c f) !(Op.bytesLess c f || c==f))))
def xAD:EO:=xEw.fT Tryz.func61 48 0 [] [] lk0 (fun ((a,b,c,_),(d,e,f,_),_)=>xtM a b c d e f none) (u2 (xH2 (u3 uI uI (sEq pStr))) (xH2 (u3 uI uI (sEq pStr)))) (fun ((a,b,c,_),(d,e,f,_),_)=>xgW a b c d e f) (fun _ p=>(AV.int .i64 p))
def xdx (a b:LA) (i:Int):=xgW (gC a i 0).toInt (gC a i 1).toInt (gC a i 2).toStr (gC b i 0).toInt (gC b i 1).toInt (gC b i 2).toStr
def xej {T:Type} (a b:LA) (i:Int) (δ:T) (κl:(Int)->T) (κr:(Bool×(Int)×(Unit))->T):T:=br (decide (i<a.length)) (br (decide (i<b.length)) (br (ixI a i) (br (ixT a i 3 [Sh.int .i64,Sh.int .i64,Sh.str] 0) (br (ixI b i) (br (ixT b i 3 [Sh.int .i64,Sh.int .i64,Sh.str] 0) (br (xdx a b i != 0) (κr (true,(xdx a b i),())) (κl (i64.wrap (i+1)))) δ) δ) δ) δ) (κr (false,0,()))) (κr (false,0,()))
def xbi (a b:LA):StT (Int) (Bool×(Int)×(Unit)):=fun (i)=>xej a b i none inL inR
def xnc:=xAD.l 41 0 [] [] Tryz.f29 0 lk0 [0,1,5] [0,1,4] [] (q3 (qL 3) (qL 3) qI) xHO (fun (a,b,i,_) _=>(xbi a b,(i),fun p=>(.node p.1 (.leaf .ret [AV.list 3 a,AV.list 3 b,AV.int .i64 p.2.1] []) (.leaf (.exit 0) [AV.list 3 a,AV.list 3 b,.top] [])))) (false,0,()) fun (a,b,_,_) _ (i)=>(((a,b,i,()),()),xej a b i none)
def xmu {T:Type} (a b:LA) (δ:T) (κ:Int->T):T:=br ((Iter (xbi a b) 0).isSome) (br (((Iter (xbi a b) 0).getD (false,0,())).fst) (κ (((Iter (xbi a b) 0).getD (false,0,())).snd.fst)) (br (decide ((↑a.length:Int)<(↑b.length:Int))) (κ ((-1))) (br (decide ((↑a.length:Int)>(↑b.length:Int))) (κ (1)) (κ (0))))) δ
def xaU (a b:LA):=xmu a b none some
def xEy:EO:=xAD.f Tryz.func29 41 0 [] [(2,xnc.lp)] (lk1 xnc.ok) (u2 (uL 3) (uL 3)) (fun (a,b,_) _=>xmu a b) (fun _ p=>AV.int .i64 p) 0
def xoq {T:Type} (a b:LA) (δ:T) (κ:Bool->T):T:=br ((xaU a b).isSome) (κ ((xaU a b).getD 0==0)) δ
def xpU (a b:LA):=xoq a b none some
def xAE:EO:=xEy.f Tryz.func120 9 0 [] [] lk0 (u2 (uL 3) (uL 3)) (fun (a,b,_) _=>xoq a b) (fun _ p=>AV.bool p) false
def xga {T:Type} (a b:LA) (i:Int) (δ:T) (κl:(Int)->T) (κr:(Bool×(Bool)×(Unit))->T):T:=br (decide (i<a.length)) (br (ixI a i) (br (ixT a i 3 [Sh.int .i64,Sh.int .i64] 1) (br (ixI b i) (br (ixT b i 3 [Sh.int .i64,Sh.int .i64] 1) (br (!((gC a i 1).toInt==(gC b i 1).toInt&&((gC a i 2).toInt==(gC b i 2).toInt&&true))) (κr (true,(false),())) (br (ixI a i) (br (ixS a i (Sh.list 3) 0) (br (ixI b i) (br (ixS b i (Sh.list 3) 0) (br ((xaU (gC a i 0).toList (gC b i 0).toList).isSome) (br ((xaU (gC a i 0).toList (gC b i 0).toList).getD 0 != 0) (κr (true,(false),())) (κl (i64.wrap (i+1)))) δ) δ) δ) δ) δ)) δ) δ) δ) δ) (κr (false,false,()))
def xbL (a b:LA):StT (Int) (Bool×(Bool)×(Unit)):=fun (i)=>xga a b i none inL inR
def xlW:=xAE.l 42 0 [] [] Tryz.f11 0 lk0 [0,1,5] [4] [] (q3 (qL 3) (qL 3) qI) xHO (fun (a,b,i,_) _=>(xbL a b,(i),fun p=>(.node p.1 (.leaf .ret [AV.bool p.2.1] []) (.leaf (.exit 0) [.top] [])))) (false,false,()) fun (a,b,_,_) _ (i)=>(((a,b,i,()),()),xga a b i none)
def xkM {T:Type} (a b:LA) (δ:T) (κ:Bool->T):T:=br ((↑a.length:Int) != (↑b.length:Int)) (κ (false)) (br ((Iter (xbL a b) 0).isSome) (br (((Iter (xbL a b) 0).getD (false,false,())).fst) (κ (((Iter (xbL a b) 0).getD (false,false,())).snd.fst)) (κ (true))) δ)
def xjs (a b:LA):=xkM a b none some
def xAF:EO:=xAE.f Tryz.func11 42 0 [] [(4,xlW.lp)] (lk1 xlW.ok) (u2 (uL 3) (uL 3)) (fun (a,b,_) _=>xkM a b) (fun _ p=>AV.bool p) false
def xem (a b:LA) (i k:Int):=decide ((xaU (gC b k 0).toList (gC a i 0).toList).getD 0<0)
def xen (a:LA) (i:Int):=decide (i.toNat<a.length)&&((a.getD i.toNat .top).cells.length==3&&xG8 [Sh.list 3,Sh.int .i64,Sh.int .i64] (a.getD i.toNat .top).cells 0)
def xeo (b:LA) (k:Int):=decide (k.toNat<b.length)&&((b.getD k.toNat .top).cells.length==3&&xG8 [Sh.list 3,Sh.int .i64,Sh.int .i64] (b.getD k.toNat .top).cells 0)
def xdc (b:LA) (k:Int):=ixI b k
def xdd (a:LA) (i:Int):=ixI a i
def xcG {T:Type} (b:LA) (c:Nat) (i k:Int) (a:LA) (δ:T) (κl:(Nat×Int×Int×LA)->T):T:=br (xdc b k) (br (xeo b k) (br (rmB c a 1 40) (κl (c+1,i,i64.wrap (k+1),a++[AV.agg [AV.list 3 (gC b k 0).toList,AV.int .i64 (gC b k 1).toInt,AV.int .i64 (gC b k 2).toInt]])) δ) δ) δ
def xcH {T:Type} (a:LA) (c:Nat) (i k:Int) (b:LA) (δ:T) (κl:(Nat×Int×Int×LA)->T):T:=br (xdd a i) (br (xen a i) (br (rmB c b 1 40) (κl (c+1,i64.wrap (i+1),k,b++[AV.agg [AV.list 3 (gC a i 0).toList,AV.int .i64 (gC a i 1).toInt,AV.int .i64 (gC a i 2).toInt]])) δ) δ) δ
def xcF {T:Type} (a b:LA) (d:Nat) (i k:Int) (c:LA) (δ:T) (κl:(Nat×Int×Int×LA)->T):T:=br (i==(↑a.length:Int)) (xcG b d i k c δ κl) (br (decide (k<b.length)) (br (xdc b k) (br (ixS b k (Sh.list 3) 0) (br (xdd a i) (br (ixS a i (Sh.list 3) 0) (br ((xaU (gC b k 0).toList (gC a i 0).toList).isSome) (br (xem a b i k) (xcG b d i k c δ κl) (xcH a d i k c δ κl)) δ) δ) δ) δ) δ) (xcH a d i k c δ κl))
def xdL {T:Type} (a b:LA) (d:Nat) (i k:Int) (c:LA) (δ:T) (κl:(Nat×Int×Int×LA)->T) (κr:(Nat×LA)->T):T:=br (decide (i<a.length)) (xcF a b d i k c δ κl) (br (decide (k<b.length)) (xcF a b d i k c δ κl) (κr (d,c)))
def xbw (a b:LA):StT (Nat×Int×Int×LA) (Nat×LA):=fun (d,i,k,c)=>xdL a b d i k c none inL inR
def xn8:=xAF.l 61 0 [] [] Tryz.f97 0 lk0 [0,1,5,6,7] [5] [(5,3,60)] (q5 (qL 3) (qL 3) (xHY 0 0 0) qI qI) (q1 (qB 0 3 60 xHQ)) (fun (a,b,d,i,k,_) (c,_)=>(xbw a b,(d,i,k,c),fun p=>(.leaf (.exit 0) [AV.osl 0 0 0 p.1] [bF 0 3 60 p.2]))) (0,[]) fun (a,b,_,_,_,_) _ (d,i,k,c)=>(((a,b,d,i,k,()),(c,())),xdL a b d i k c none)
def xmS (a b:LA):=Iter (xbw a b) (0,0,0,[])
def xmR (a b:LA):=(xmS a b).getD (0,[])
def xmP (a b:LA):=(xmR a b).snd
def xmQ (a b:LA):=(xmR a b).fst
def xnz {T:Type} (a b:LA) (δ:T) (κ:LA->T):T:=br ((xmS a b).isSome) (br (decide (0+xmQ a b<=(xmP a b).length)&&true) (κ (List.take (xmQ a b) (List.drop 0 (xmP a b)))) δ) δ
def xpk (a b:LA):=xnz a b none some
def xs6:EO:=xAF.f Tryz.func97 61 0 [] [(3,xn8.lp)] (lk1 xn8.ok) (u2 (uL 3) (uL 3)) (fun (a,b,_) _=>xnz a b) (fun _ p=>AV.list 3 p) []
def xj0 (R:LA->Option (LA)):LA->Option (Bool×AV):=ocOf (xHN (xH1 3 xHQ) xHP) fun (l,_)=>((R l).isSome,AV.list 3 ((R l).getD []))
def xfc (R:LA->Option (LA)):Env:=(xs6.E.with 82 (xj0 R)).fn 20 0 (lsOf []) (xHp [])
def xjm (R:LA->Option (LA)):Prop:=OcOk P0 xHL 82 (xj0 R)
theorem xra (R:LA->Option (LA)) (a:xjm R):xG3 P0 (xHL.at 0) (xfc R):=(xs6.ok.with a).fn
theorem xqk (R:LA->Option (LA)):LoOk P0 (xHL.at (xfc R).pin) (xfc R) (Tryz.f82.body.getD .skip):=xe4 (by kernel_rfl)
def xlK (l:LA):=decide (0<=i64.wrap ((↑l.length:Int).tdiv 2))&&decide (i64.wrap ((↑l.length:Int).tdiv 2)<=(↑l.length:Int))
def xlL (R:LA->Option (LA)) (l:LA):Option (LA):=R (List.take (l.length - (i64.wrap ((↑l.length:Int).tdiv 2)).toNat) (List.drop (i64.wrap ((↑l.length:Int).tdiv 2)).toNat l))
def xlJ (R:LA->Option (LA)) (l:LA):Option (LA):=xpk ((R (List.take ((i64.wrap ((↑l.length:Int).tdiv 2)).toNat - 0) (List.drop 0 l))).getD []) ((xlL R l).getD [])
def xfF {T:Type} (R:LA->Option (LA)) (l:LA) (δ:T) (κ:LA->T):T:=br (decide ((↑l.length:Int)<2)) (κ (l)) (br (xlK l&&true) (br ((R (List.take ((i64.wrap ((↑l.length:Int).tdiv 2)).toNat - 0) (List.drop 0 l))).isSome) (br (xlK l) (br ((xlL R l).isSome) (br ((xlJ R l).isSome) (κ ((xlJ R l).getD [])) δ) δ) δ) δ) δ)
def xcr (R:LA->Option (LA)) (l:LA):=xfF R l none some
theorem xtQ (R:LA->Option (LA)) (l:LA):Enc (fun (p:LA)=>((AV.list 3 p):AV)) (xcr R l) (XF P0 (xfc R) Tryz.f82 (Tryz.f82.body.getD .skip) [AV.list 3 l]):=by
 have h:XF P0 (xfc R) Tryz.f82 (Tryz.f82.body.getD .skip) [AV.list 3 l]=xfF R l none (fun (p:LA)=>some ((AV.list 3 p):AV)):=by kernel_rfl
 rw [h];unfold xcr xfF;repeat' (first|refine Enc.br ?_ ?_|exact Enc.none|exact Enc.some rfl)
def xtP (R:LA->Option (LA)):LA->Option (Bool×AV):=ocOf (xHN (xH1 3 xHQ) xHP) fun (l,_)=>((xcr R l).isSome,(AV.list 3 ((xcr R l).getD [])))
theorem xtO (R:LA->Option (LA)) (c:xjm R):OcOk P0 xHL 82 (xtP R):=xlS fun e g f=>by
 obtain ⟨l,_⟩:=e;obtain ⟨a,b⟩:=Prod.mk.inj f;refine xiR (p:=(xfc R).pin) (xlR xHc (xHd P0 _) rfl (xra R c) Tryz.func82 rfl (by kernel_rfl) (xqk R) ((xtQ R _ _ (xcy (d:=[]) a)).trans ?_))
 exact congrArg some b
def xbT:Nat->LA->Option (LA)
 | 0=>fun _=>none
 | fu_+1=>fun l=>xcr (xbT fu_) l
theorem xn9:∀ n,xjm (xbT n)
 | 0=>xlS fun _ _ h=>absurd (Prod.mk.inj h).1 Bool.false_ne_true
 | fu_+1=>fun a r h=>xtO (xbT fu_) (xn9 fu_) a r h
def xAG:Env:=xs6.E.with 82 (xj0 (xbT 100))
theorem xAI:xG3 P0 xHL xAG:=xs6.ok.with (xn9 _)
def xAH:EO:=EO.mk xAG xAI
def xfh (a b:Int):Bool:=(br (decide (a>=0)) (br (decide (a<b)) ((decide (b<=1099511627776))) ((false))) ((false)))
def xvo {T:Type} (a b:Int) (δ:T) (κ:Bool->T):T:=br (decide (a>=0)) (br (decide (a<b)) (κ (decide (b<=1099511627776))) (κ (false))) (κ (false))
def xEz:EO:=xAH.fT Tryz.func59 18 0 [] [] lk0 (fun ((a,b,_),_)=>xvo a b none) (u1 (xH2 (u2 uI uI))) (fun ((a,b,_),_)=>xfh a b) (fun _ p=>(AV.bool p))
def xks (a b t:Int):Bool:=(br (xfh a b) (br (decide (a<=t)) ((decide (t<b))) ((false))) ((false)))
def xsV {T:Type} (a b t:Int) (δ:T) (κ:Bool->T):T:=br (xfh a b) (br (decide (a<=t)) (κ (decide (t<b))) (κ (false))) (κ (false))
def xEA:EO:=xEz.fT Tryz.func121 19 0 [] [] lk0 (fun ((a,b,_),t,_)=>xsV a b t none) (u2 (xH2 (u2 uI uI)) uI) (fun ((a,b,_),t,_)=>xks a b t) (fun _ p=>(AV.bool p))
def xk9 (a b c d:Int):Int:=(br (a==c&&(b==d&&true)) ((0)) (br (decide (a<c)) (((-1))) (br (a==c) (br (decide (b<d)) (((-1))) ((1))) ((1)))))
def xtK {T:Type} (a b c d:Int) (δ:T) (κ:Int->T):T:=br (a==c&&(b==d&&true)) (κ (0)) (br (decide (a<c)) (κ ((-1))) (br (a==c) (br (decide (b<d)) (κ ((-1))) (κ (1))) (κ (1))))
def xDl:EO:=xEA.fT Tryz.func101 27 0 [] [] lk0 (fun ((a,b,_),(c,d,_),_)=>xtK a b c d none) (u2 (xH2 (u2 uI uI)) (xH2 (u2 uI uI))) (fun ((a,b,_),(c,d,_),_)=>xk9 a b c d) (fun _ p=>(AV.int .i64 p))
def xAa:Int×Int×List UInt8:=((0,0,[]))
def xwD {T:Type} (δ:T) (κ:Int×Int×List UInt8->T):T:=κ (0,0,[])
def xDm:EO:=xDl.fT Tryz.func180 2 0 [] [] lk0 (fun _=>xwD none) xHP (fun _=>xAa) (fun _ p=>(AV.agg [AV.int .i64 p.1,AV.int .i64 p.2.1,AV.str p.2.2]))
def xtN {T:Type} (a:LA) (i:Int) (δ:T) (κ:Int×Int×List UInt8->T):T:=br (decide (i<0)) (κ (0,0,[])) (br (decide (i>=a.length)) (κ (0,0,[])) (br (ixI a i) (br (ixT a i 3 [Sh.int .i64,Sh.int .i64,Sh.str] 0) (κ ((gC a i 0).toInt,(gC a i 1).toInt,(gC a i 2).toStr)) δ) δ))
def xqF (a:LA) (i:Int):=xtN a i none some
def xyG:EO:=xDm.f Tryz.func175 18 0 [] [] lk0 (u2 (uL 3) uI) (fun (a,i,_) _=>xtN a i) (fun _ p=>AV.agg [AV.int .i64 p.1,AV.int .i64 p.2.1,AV.str p.2.2]) (0,0,[])
def xjW (o:LA) (i:Int):=ixI o i
def xn2 (a o:LA) (i:Int):=(xqF a (gC o i 0).toInt).getD (0,0,[])
def xn3 (b o:LA) (i:Int):=(xqF b (gC o i 0).toInt).getD (0,0,[])
def xn0 (b o:LA) (i:Int):=(xn3 b o i).snd
def xn1 (a o:LA) (i:Int):=(xn2 a o i).snd
def xnx (a b o:LA) (i:Int):=xgW (xn2 a o i).fst (xn1 a o i).fst (xn1 a o i).snd (xn3 b o i).fst (xn0 b o i).fst (xn0 b o i).snd
def xkL {T:Type} (a b o:LA) (i:Int) (δ:T) (κl:(Int)->T) (κr:(Bool×(Bool)×(Unit))->T):T:=br (decide (i<o.length)) (br (xjW o i) (br (ixS o i (Sh.int .i64) 0) (br ((xqF a (gC o i 0).toInt).isSome) (br (xjW o i) (br (ixS o i (Sh.int .i64) 0) (br ((xqF b (gC o i 0).toInt).isSome) (br (xnx a b o i != 0) (br (xjW o i) (br (decide (i.toNat<o.length)&&xG1 Sh.bool (gC o i 1)) (κr (true,(!decide (xnx a b o i<0)==(gC o i 1).toBool),())) δ) δ) (κl (i64.wrap (i+1)))) δ) δ) δ) δ) δ) δ) (κr (false,false,()))
def xdm (a b o:LA):StT (Int) (Bool×(Bool)×(Unit)):=fun (i)=>xkL a b o i none inL inR
def xnZ:=xyG.l 44 0 [] [] Tryz.f168 0 lk0 [0,1,2,7] [0,1,6] [] (q4 (qL 3) (qL 3) (qL 2) qI) xHO (fun (a,b,o,i,_) _=>(xdm a b o,(i),fun p=>(.node p.1 (.leaf .ret [AV.list 3 a,AV.list 3 b,AV.bool p.2.1] []) (.leaf (.exit 0) [AV.list 3 a,AV.list 3 b,.top] [])))) (false,false,()) fun (a,b,o,_,_) _ (i)=>(((a,b,o,i,()),()),xkL a b o i none)
def xnt {T:Type} (a b o:LA) (δ:T) (κ:Bool->T):T:=br ((Iter (xdm a b o) 0).isSome) (br (((Iter (xdm a b o) 0).getD (false,false,())).fst) (κ (((Iter (xdm a b o) 0).getD (false,false,())).snd.fst)) (br ((xaU a b).isSome) (κ (decide ((xaU a b).getD 0<0))) δ)) δ
def xmy (a b o:LA):=xnt a b o none some
def xyH:EO:=xyG.f Tryz.func168 44 0 [] [(2,xnZ.lp)] (lk1 xnZ.ok) (u3 (uL 3) (uL 3) (uL 2)) (fun (a,b,o,_) _=>xnt a b o) (fun _ p=>AV.bool p) false
def xc8 (a:LA) (i:Int):=decide (i.toNat<a.length)&&xG1 (Sh.list 3) (gC a i 0)
def xc9 (b:LA) (k:Int):=decide (k.toNat<b.length)&&xG1 (Sh.list 3) (gC b k 0)
def xda (a:LA) (i:Int):=ixI a i
def xdb (b:LA) (k:Int):=ixI b k
def xcD {T:Type} (b:LA) (c:Nat) (i k:Int) (a:LA) (δ:T) (κl:(Nat×Int×Int×LA)->T):T:=br (xdb b k) (br (xc9 b k) (br (rmB c a 1 24) (κl (c+1,i,i64.wrap (k+1),a++[AV.list 3 (gC b k 0).toList])) δ) δ) δ
def xcE {T:Type} (a:LA) (c:Nat) (i k:Int) (b:LA) (δ:T) (κl:(Nat×Int×Int×LA)->T):T:=br (xda a i) (br (xc8 a i) (br (rmB c b 1 24) (κl (c+1,i64.wrap (i+1),k,b++[AV.list 3 (gC a i 0).toList])) δ) δ) δ
def xcC {T:Type} (a b o:LA) (d:Nat) (i k:Int) (c:LA) (δ:T) (κl:(Nat×Int×Int×LA)->T):T:=br (i==(↑a.length:Int)) (xcD b d i k c δ κl) (br (decide (k<b.length)) (br (xdb b k) (br (xc9 b k) (br (xda a i) (br (xc8 a i) (br ((xmy (gC b k 0).toList (gC a i 0).toList o).isSome) (br ((xmy (gC b k 0).toList (gC a i 0).toList o).getD false) (xcD b d i k c δ κl) (xcE a d i k c δ κl)) δ) δ) δ) δ) δ) (xcE a d i k c δ κl))
def xdK {T:Type} (a b o:LA) (d:Nat) (i k:Int) (c:LA) (δ:T) (κl:(Nat×Int×Int×LA)->T) (κr:(Nat×LA)->T):T:=br (decide (i<a.length)) (xcC a b o d i k c δ κl) (br (decide (k<b.length)) (xcC a b o d i k c δ κl) (κr (d,c)))
def xbv (a b o:LA):StT (Nat×Int×Int×LA) (Nat×LA):=fun (d,i,k,c)=>xdK a b o d i k c none inL inR
def xn4:=xyH.l 62 0 [] [] Tryz.f160 0 lk0 [0,1,2,7,8,9] [7] [(7,1,54)] (q6 (qL 1) (qL 1) (qL 2) (xHY 0 0 0) qI qI) (q1 (qB 0 1 54 xHQ)) (fun (a,b,o,d,i,k,_) (c,_)=>(xbv a b o,(d,i,k,c),fun p=>(.leaf (.exit 0) [AV.osl 0 0 0 p.1] [bF 0 1 54 p.2]))) (0,[]) fun (a,b,o,_,_,_,_) _ (d,i,k,c)=>(((a,b,o,d,i,k,()),(c,())),xdK a b o d i k c none)
def xmC (a b o:LA):=Iter (xbv a b o) (0,0,0,[])
def xmB (a b o:LA):=(xmC a b o).getD (0,[])
def xmz (a b o:LA):=(xmB a b o).fst
def xmA (a b o:LA):=(xmB a b o).snd
def xnu {T:Type} (a b o:LA) (δ:T) (κ:LA->T):T:=br ((xmC a b o).isSome) (br (decide (0+xmz a b o<=(xmA a b o).length)&&true) (κ (List.take (xmz a b o) (List.drop 0 (xmA a b o)))) δ) δ
def xpd (a b o:LA):=xnu a b o none some
def xrW:EO:=xyH.f Tryz.func160 62 0 [] [(3,xn4.lp)] (lk1 xn4.ok) (u3 (uL 1) (uL 1) (uL 2)) (fun (a,b,o,_) _=>xnu a b o) (fun _ p=>AV.list 1 p) []
def xlI (R:LA->LA->Option (LA)):LA->Option (Bool×AV):=ocOf (xHN (xH1 1 xHQ) (xHN (xH1 2 xHQ) xHP)) fun (l,(o,_))=>((R l o).isSome,AV.list 1 ((R l o).getD []))
def xgp (R:LA->LA->Option (LA)):Env:=(xrW.E.with 141 (xlI R)).fn 34 0 (lsOf []) (xHp [])
def xkK (R:LA->LA->Option (LA)):Prop:=OcOk P0 xHL 141 (xlI R)
theorem xr5 (R:LA->LA->Option (LA)) (a:xkK R):xG3 P0 (xHL.at 0) (xgp R):=(xrW.ok.with a).fn
theorem xqG (R:LA->LA->Option (LA)):LoOk P0 (xHL.at (xgp R).pin) (xgp R) (Tryz.f141.body.getD .skip):=xe4 (by kernel_rfl)
def xig (l:LA):=decide (0<=i64.wrap ((↑l.length:Int).tdiv 2))&&decide (i64.wrap ((↑l.length:Int).tdiv 2)<=(↑l.length:Int))
def xfb (l:LA):Nat:=0+((l.getD 0 .top).cells.getD 0 .top).toList.length
def xih (R:LA->LA->Option (LA)) (l o:LA):Option (LA):=R (List.take (l.length - (i64.wrap ((↑l.length:Int).tdiv 2)).toNat) (List.drop (i64.wrap ((↑l.length:Int).tdiv 2)).toNat l)) o
def xif (R:LA->LA->Option (LA)) (l o:LA):Option (LA):=xpd ((R (List.take ((i64.wrap ((↑l.length:Int).tdiv 2)).toNat - 0) (List.drop 0 l)) o).getD []) ((xih R l o).getD []) o
def xeO {T:Type} (R:LA->LA->Option (LA)) (l o:LA) (δ:T) (κ:LA->T):T:=br ((↑l.length:Int)==0) (κ ([])) (br ((↑l.length:Int)==1) (br (decide (0<(↑l.length:Int))) (br (decide (0<l.length)&&xG1 (Sh.list 3) ((l.getD 0 .top).cells.getD 0 .top)) (br (decide (xfb l*32<=140737488355328)&&decide (xfb l<=4611686018427387904)) (br (decide (0+xfb l<=([]++((l.getD 0 .top).cells.getD 0 .top).toList).length)&&true&&true&&true) (κ ([AV.list 3 (List.take (xfb l) (List.drop 0 ([]++((l.getD 0 .top).cells.getD 0 .top).toList)))])) δ) δ) δ) δ) (br (xig l&&true) (br ((R (List.take ((i64.wrap ((↑l.length:Int).tdiv 2)).toNat - 0) (List.drop 0 l)) o).isSome) (br (xig l) (br ((xih R l o).isSome) (br ((xif R l o).isSome) (κ ((xif R l o).getD [])) δ) δ) δ) δ) δ))
def xb9 (R:LA->LA->Option (LA)) (l o:LA):=xeO R l o none some
theorem xvr (R:LA->LA->Option (LA)) (l o:LA):Enc (fun (p:LA)=>((AV.list 1 p):AV)) (xb9 R l o) (XF P0 (xgp R) Tryz.f141 (Tryz.f141.body.getD .skip) [AV.list 1 l,AV.list 2 o]):=by
 have h:XF P0 (xgp R) Tryz.f141 (Tryz.f141.body.getD .skip) [AV.list 1 l,AV.list 2 o]=xeO R l o none (fun (p:LA)=>some ((AV.list 1 p):AV)):=by kernel_rfl
 rw [h];unfold xb9 xeO;repeat' (first|refine Enc.br ?_ ?_|exact Enc.none|exact Enc.some rfl)
def xvq (R:LA->LA->Option (LA)):LA->Option (Bool×AV):=ocOf (xHN (xH1 1 xHQ) (xHN (xH1 2 xHQ) xHP)) fun (l,(o,_))=>((xb9 R l o).isSome,(AV.list 1 ((xb9 R l o).getD [])))
theorem xvp (R:LA->LA->Option (LA)) (c:xkK R):OcOk P0 xHL 141 (xvq R):=xlS fun e g f=>by
 obtain ⟨l,⟨o,_⟩⟩:=e;obtain ⟨a,b⟩:=Prod.mk.inj f;refine xiR (p:=(xgp R).pin) (xlR xHc (xHd P0 _) rfl (xr5 R c) Tryz.func141 rfl (by kernel_rfl) (xqG R) ((xvr R _ _ _ (xcy (d:=[]) a)).trans ?_))
 exact congrArg some b
def xb5:Nat->LA->LA->Option (LA)
 | 0=>fun _ _=>none
 | fu_+1=>fun l o=>xb9 (xb5 fu_) l o
theorem xpb:∀ n,xkK (xb5 n)
 | 0=>xlS fun _ _ h=>absurd (Prod.mk.inj h).1 Bool.false_ne_true
 | fu_+1=>fun a r h=>xvp (xb5 fu_) (xpb fu_) a r h
def xyI:Env:=xrW.E.with 141 (xlI (xb5 1000))
theorem xzw:xG3 P0 xHL xyI:=xrW.ok.with (xpb _)
def xzv:EO:=EO.mk xyI xzw
def xpc {T:Type} (l:LA) (δ:T) (κ:LA->T):T:=br ((xb5 1000 l []).isSome) (κ ((xb5 1000 l []).getD [])) δ
def xmw (l:LA):=xpc l none some
def xyJ:EO:=xzv.f Tryz.func119 5 0 [] [] lk0 (u1 (uL 1)) (fun (l,_) _=>xpc l) (fun _ p=>AV.list 1 p) []
def xf7 (a:LA) (i:Int):=decide (i.toNat<a.length)&&xG1 (Sh.list 3) (gC a i 0)
def xf8 (a:LA) (i:Int):=ixI a i
def xf9 (a:LA) (i:Int):=xpU ((a.getD (i64.wrap (i - 1)).toNat .top).cells.getD 0 .top).toList (gC a i 0).toList
def xek {T:Type} (c:LA) (b:Nat) (i:Int) (a:LA) (δ:T) (κl:(Nat×Int×LA)->T):T:=br (xf8 c i) (br (xf7 c i) (br (rmB b a 1 24) (κl (b+1,i64.wrap (i+1),a++[AV.list 3 (gC c i 0).toList])) δ) δ) δ
def xeY {T:Type} (a:LA) (c:Nat) (i:Int) (b:LA) (δ:T) (κl:(Nat×Int×LA)->T) (κr:(Nat×LA)->T):T:=br (decide (i<a.length)) (br (i==0) (xek a c i b δ κl) (br (decide (0<=i64.wrap (i - 1))&&decide (i64.wrap (i - 1)<(↑a.length:Int))) (br (decide ((i64.wrap (i - 1)).toNat<a.length)&&xG1 (Sh.list 3) ((a.getD (i64.wrap (i - 1)).toNat .top).cells.getD 0 .top)) (br (xf8 a i) (br (xf7 a i) (br ((xf9 a i).isSome) (br (!(xf9 a i).getD false) (xek a c i b δ κl) (κl (c,i64.wrap (i+1),b))) δ) δ) δ) δ) δ)) (κr (c,b))
def xbX (c:LA):StT (Nat×Int×LA) (Nat×LA):=fun (b,i,a)=>xeY c b i a none inL inR
def xmv:=xyJ.l 38 0 [] [] Tryz.f98 0 lk0 [3,4,5] [4] [(4,1,54)] (q3 (qL 1) (xHY 0 0 0) qI) (q1 (qB 0 1 54 xHQ)) (fun (c,b,i,_) (a,_)=>(xbX c,(b,i,a),fun p=>(.leaf (.exit 0) [AV.osl 0 0 0 p.1] [bF 0 1 54 p.2]))) (0,[]) fun (c,_,_,_) _ (b,i,a)=>(((c,b,i,()),(a,())),xeY c b i a none)
def xkJ (l:LA):=(Iter (xbX ((xmw l).getD [])) (0,0,[])).getD (0,[])
def xkH (l:LA):=(xkJ l).fst
def xkI (l:LA):=(xkJ l).snd
def xlH {T:Type} (l:LA) (δ:T) (κ:LA->T):T:=br ((xmw l).isSome) (br ((Iter (xbX ((xmw l).getD [])) (0,0,[])).isSome) (br (decide (0+xkH l<=(xkI l).length)&&true) (κ (List.take (xkH l) (List.drop 0 (xkI l)))) δ) δ) δ
def xns (l:LA):=xlH l none some
def xyK:EO:=xyJ.f Tryz.func98 38 0 [] [(4,xmv.lp)] (lk1 xmv.ok) (u1 (uL 1)) (fun (l,_) _=>xlH l) (fun _ p=>AV.list 1 p) []
def xjt {T:Type} (l:LA) (b:Nat) (i:Int) (a:LA) (δ:T) (κl:(Nat×Int×LA)->T) (κr:(Nat×LA)->T):T:=br (decide (i<l.length)) (br (ixI l i) (br (ixT l i 3 [Sh.int .i64,Sh.int .i64] 1) (br (xfh (gC l i 1).toInt (gC l i 2).toInt) (br (ixI l i) (br (ixS l i (Sh.list 3) 0) (br (rmB b a 1 24) (κl (b+1,i64.wrap (i+1),a++[AV.list 3 (gC l i 0).toList])) δ) δ) δ) (κl (b,i64.wrap (i+1),a))) δ) δ) (κr (b,a))
def xel (l:LA):StT (Nat×Int×LA) (Nat×LA):=fun (b,i,a)=>xjt l b i a none inL inR
def xph:=xyK.l 27 0 [] [] Tryz.f83 0 lk0 [0,3,4] [3] [(3,1,54)] (q3 (qL 3) (xHY 0 0 0) qI) (q1 (qB 0 1 54 xHQ)) (fun (l,b,i,_) (a,_)=>(xel l,(b,i,a),fun p=>(.leaf (.exit 0) [AV.osl 0 0 0 p.1] [bF 0 1 54 p.2]))) (0,[]) fun (l,_,_,_) _ (b,i,a)=>(((l,b,i,()),(a,())),xjt l b i a none)
def xou (l:LA):=(Iter (xel l) (0,0,[])).getD (0,[])
def xos (l:LA):=(xou l).snd
def xot (l:LA):=(xou l).fst
def xor (l:LA):=xns (List.take (xot l) (List.drop 0 (xos l)))
def xpi {T:Type} (l:LA) (δ:T) (κ:LA->T):T:=br ((Iter (xel l) (0,0,[])).isSome) (br (decide (0+xot l<=(xos l).length)&&true) (br ((xor l).isSome) (κ ((xor l).getD [])) δ) δ) δ
def xoO (l:LA):=xpi l none some
def xt5:EO:=xyK.f Tryz.func83 27 0 [] [(3,xph.lp)] (lk1 xph.ok) (u1 (uL 3)) (fun (l,_) _=>xpi l) (fun _ p=>AV.list 1 p) []
def xgU:Env:=xt5.E.fn 51 1 (lsOf []) (xHp [])
theorem xsW:xG3 P0 (xHL.at 1) xgU:=xt5.ok.fn
theorem xq9:LoOk P0 (xHL.at xgU.pin) xgU (Tryz.f100.body.getD .skip):=xe4 (by kernel_rfl)
def xd5 (k:Nat) (a:LA):=(List.take ((i64.wrap ((↑k:Int) - 1)).toNat - 0) (List.drop 0 a)).length
def xlb (k:Nat) (a:LA):=decide (0+(i64.wrap ((↑k:Int) - 1)).toNat<a.length)
def xi4 (k:Nat) (a:LA):=((a.getD (0+(i64.wrap ((↑k:Int) - 1)).toNat) .top).cells.getD 1 .top).toInt
def xlc (k:Nat):=decide (0<=i64.wrap ((↑k:Int) - 1))
def xi3 (k:Nat):=xlc k&&decide (i64.wrap ((↑k:Int) - 1)<(↑k:Int))
def xla (k:Nat) (a:LA):=xlb k a&&xG1 (Sh.int .i64) ((a.getD (0+(i64.wrap ((↑k:Int) - 1)).toNat) .top).cells.getD 1 .top)
def xh2 {T:Type} (k:Nat) (a b:Int) (c:LA) (δ:T) (κ:Bool×(Nat×LA×LA)×(Nat×LA)->T):T:=br (rmB k c 1 16) (κ (false,(0,[],[]),(k+1,c++[AV.agg [AV.int .i64 a,AV.int .i64 b]]))) δ
def xjV {T:Type} (k:Nat) (b c:Int) (a:LA) (δ:T) (κ:Bool×(Nat×LA×LA)×(Nat×LA)->T):T:=br (decide ((↑k:Int)>0)) (br (xi3 k) (br (xla k a) (br (decide (xi4 k a>=b)) (br (xlc k&&decide (i64.wrap ((↑k:Int) - 1)<=(↑k:Int))&&true) (br (decide (0+((i64.wrap ((↑k:Int) - 1)).toNat - 0)<=a.length)&&(decide (xd5 k a*16<=140737488355328)&&decide (xd5 k a<=4611686018427387904))) (br (xi3 k) (br (xlb k a&&xG1 (Sh.int .i64) ((a.getD (0+(i64.wrap ((↑k:Int) - 1)).toNat) .top).cells.getD 0 .top)) (br (xi3 k) (br (xla k a) (br (xd5 k a==xd5 k a&&(decide ((xd5 k a+1)*16<=140737488355328)&&decide (xd5 k a+1<=4611686018427387904))) (κ (true,(xd5 k a+1,a,List.take ((i64.wrap ((↑k:Int) - 1)).toNat - 0) (List.drop 0 a)++[AV.agg [AV.int .i64 ((a.getD (0+(i64.wrap ((↑k:Int) - 1)).toNat) .top).cells.getD 0 .top).toInt,AV.int .i64 (if c>xi4 k a then c else xi4 k a)]]),(0,[]))) δ) δ) δ) δ) δ) δ) δ) (xh2 k b c a δ κ)) δ) δ) (xh2 k b c a δ κ)
def xb4 (k:Nat) (a b:Int) (c:LA):=xjV k a b c none some
theorem xwC (k:Nat) (a b:Int) (xs:LA):Enc (fun (p:Bool×(Nat×LA×LA)×(Nat×LA))=>((br p.1 ((AV.osl 1 0 0 p.2.1.1,([⟨0,2,56,p.2.1.2.1,false,true⟩,⟨0,2,56,p.2.1.2.2,false,true⟩]:List Box))) ((AV.osl 0 1 0 p.2.2.1,([⟨1,2,56,p.2.2.2,false,true⟩]:List Box)))):(AV×List Box))) (xb4 k a b xs) (XFM P0 xgU Tryz.f100 (Tryz.f100.body.getD .skip) [AV.osl (0:Id) 0 0 k,AV.agg [AV.int .i64 a,AV.int .i64 b]] [{ ver:=0,sz:=2,ty:=(56:TypeId),xs:=xs,frz:=false,pm:=true }]):=by
 have h:XFM P0 xgU Tryz.f100 (Tryz.f100.body.getD .skip) [AV.osl (0:Id) 0 0 k,AV.agg [AV.int .i64 a,AV.int .i64 b]] [{ ver:=0,sz:=2,ty:=(56:TypeId),xs:=xs,frz:=false,pm:=true }]=xjV k a b xs none (fun (p:Bool×(Nat×LA×LA)×(Nat×LA))=>some ((br p.1 ((AV.osl 1 0 0 p.2.1.1,([⟨0,2,56,p.2.1.2.1,false,true⟩,⟨0,2,56,p.2.1.2.2,false,true⟩]:List Box))) ((AV.osl 0 1 0 p.2.2.1,([⟨1,2,56,p.2.2.2,false,true⟩]:List Box)))):(AV×List Box))):=by kernel_rfl
 rw [h];unfold xb4 xjV xh2;repeat' (first|refine Enc.br ?_ ?_|exact Enc.none|exact Enc.some rfl)
def xwB:LA->List Box->Option (Bool×AV×List Box):=omOf (xHN (sEq (xHY 0 0 0)) (xHN (xH2 (xHN (sEq (pInt .i64)) (xHN (sEq (pInt .i64)) xHP))) xHP)) (xHM (xH0 0 2 (56:TypeId) false true xHQ) xHO) fun (k,((a,(b,_)),_)) (c,_)=>((xb4 k a b c).isSome,(AV.osl 1 0 0 (br ((xb4 k a b c).getD (false,(0,[],[]),(0,[]))).1 ((xb4 k a b c).getD (false,(0,[],[]),(0,[]))).2.1.1 ((xb4 k a b c).getD (false,(0,[],[]),(0,[]))).2.2.1),
 ([⟨2,2,56,[],false,true⟩,⟨0,2,56,br ((xb4 k a b c).getD (false,(0,[],[]),(0,[]))).1 ((xb4 k a b c).getD (false,(0,[],[]),(0,[]))).2.1.2.2 ((xb4 k a b c).getD (false,(0,[],[]),(0,[]))).2.2.2,false,true⟩]:List Box)))
theorem xwA:OmOk P0 xHL 100 (xwB):=xlT fun e f j h g=>by
 obtain ⟨k,⟨⟨c,⟨i,_⟩⟩,_⟩⟩:=e;obtain ⟨l,_⟩:=f;obtain ⟨b,a⟩:=Prod.mk.inj g;have hx:=xwC _ _ _ _ _ (xcy (d:=(false,(0,[],[]),(0,[]))) b);revert hx a;generalize ((xb4 _ _ _ _).getD (false,(0,[],[]),(0,[])))=p;intro a hx;obtain ⟨rfl,rfl⟩:=Prod.mk.inj a;obtain ⟨t,⟨m,n,o⟩,q,r⟩:=p;have hg:GoodM P0 xHL 100 _ _ _ _:=xg1 (p:=xgU.pin) (xiH xHc (xHd P0 _) rfl xsW rfl Tryz.func100 rfl (by kernel_rfl) xq9 hx)
 cases t
 . exact GoodM.move0 rfl (by decide) hg
 . exact GoodM.drop0 rfl (by decide) hg
def xzu:EO:=xt5.wM xwA
def xfX {T:Type} (l:LA) (n:Int) (b:Nat) (i:Int) (a:LA) (δ:T) (κl:(Nat×Int×LA)->T) (κr:(Nat×Int×LA)->T):T:=br (decide (i<l.length)) (br (ixI l i) (br (ixS l i (Sh.int .i64) 0) (br (decide ((gC l i 0).toInt<n)) (br (ixI l i) (br (ixS l i (Sh.int .i64) 0) (br (rmB b a 1 8) (κl (b+1,i64.wrap (i+1),a++[AV.int .i64 (gC l i 0).toInt])) δ) δ) δ) (κr (b,i,a))) δ) δ) (κr (b,i,a))
def xck (l:LA) (n:Int):StT (Nat×Int×LA) (Nat×Int×LA):=fun (b,i,a)=>xfX l n b i a none inL inR
def xjU:=xzu.l 58 0 [] [] Tryz.f54 0 lk0 [0,1,5,6] [0,1,5,6] [(5,1,3)] (q4 (qL 1) qI (xHY 0 0 0) qI) (q1 (qB 0 1 3 xHQ)) (fun (l,n,b,i,_) (a,_)=>(xck l n,(b,i,a),fun p=>(.leaf (.exit 0) [AV.list 1 l,AV.int .i64 n,AV.osl 0 0 0 p.1,AV.int .i64 p.2.1] [bF 0 1 3 p.2.2]))) (0,0,[]) fun (l,n,_,_,_) _ (b,i,a)=>(((l,n,b,i,()),(a,())),xfX l n b i a none)
def xhT {T:Type} (l:LA) (b:Nat) (i:Int) (a:LA) (δ:T) (κl:(Nat×Int×LA)->T) (κr:(Nat×LA)->T):T:=br (decide (i<l.length)) (br (ixI l i) (br (ixS l i (Sh.int .i64) 0) (br (rmB b a 1 8) (κl (b+1,i64.wrap (i+1),a++[AV.int .i64 (gC l i 0).toInt])) δ) δ) δ) (κr (b,a))
def xcl (l:LA):StT (Nat×Int×LA) (Nat×LA):=fun (b,i,a)=>xhT l b i a none inL inR
def xnX:=xzu.l 58 0 [] [(3,xjU.lp)] Tryz.f54 1 lk0 [0,5,6] [5] [(5,1,3)] (q3 (qL 1) (xHY 0 0 0) qI) (q1 (qB 0 1 3 xHQ)) (fun (l,b,i,_) (a,_)=>(xcl l,(b,i,a),fun p=>(.leaf (.exit 2) [AV.osl 0 0 0 p.1] [bF 0 1 3 p.2]))) (0,[]) fun (l,_,_,_) _ (b,i,a)=>(((l,b,i,()),(a,())),xhT l b i a none)
def xgA (l:LA) (n:Int):=(Iter (xck l n) (0,0,[])).getD (0,0,[])
def xe7 (l:LA) (n:Int):=(xgA l n).fst
def xgz (l:LA) (n:Int):=(xgA l n).snd
def xbQ (l:LA) (n:Int):=(xgz l n).fst
def xe5 (l:LA) (n:Int):=xe7 l n+1
def xe6 (l:LA) (n:Int):=(xgz l n).snd
def xg8 (l:LA) (n:Int):=Iter (xcl l) (xe5 l n,xbQ l n,xe6 l n++[AV.int .i64 n])
def xhc (l:LA) (n:Int):=Iter (xcl l) (xe7 l n,xbQ l n,xe6 l n)
def xiX (l:LA) (n:Int):=xe7 l n==(xe6 l n).length
def xg7 (l:LA) (n:Int):=(xg8 l n).getD (0,[])
def xjq (l:LA) (n:Int):=(xg8 l n).isSome
def xhb (l:LA) (n:Int):=(xhc l n).getD (0,[])
def xg5 (l:LA) (n:Int):=(xg7 l n).snd
def xg6 (l:LA) (n:Int):=(xg7 l n).fst
def xg9 (l:LA) (n:Int):=(xhb l n).fst
def xha (l:LA) (n:Int):=(xhb l n).snd
def xlD {T:Type} (l:LA) (n:Int) (δ:T) (κ:LA->T):T:=br (xiX l n&&(decide (xe5 l n*8<=140737488355328)&&decide (xe5 l n<=4611686018427387904))) (br (xjq l n) (br (decide (0+xg6 l n<=(xg5 l n).length)&&true) (κ (List.take (xg6 l n) (List.drop 0 (xg5 l n)))) δ) δ) δ
def xnj {T:Type} (l:LA) (n:Int) (δ:T) (κ:LA->T):T:=br ((Iter (xck l n) (0,0,[])).isSome) (br (xbQ l n==(↑l.length:Int)) (xlD l n δ κ) (br (decide (0<=xbQ l n)&&decide (xbQ l n<l.length)) (br (decide ((xbQ l n).toNat<l.length)&&xG1 (Sh.int .i64) ((l.getD (xbQ l n).toNat .top).cells.getD 0 .top)) (br (decide (((l.getD (xbQ l n).toNat .top).cells.getD 0 .top).toInt>n)) (xlD l n δ κ) (br ((xhc l n).isSome) (br (decide (0+xg9 l n<=(xha l n).length)&&true) (κ (List.take (xg9 l n) (List.drop 0 (xha l n)))) δ) δ)) δ) δ)) δ
def xgy (l:LA) (n:Int):=xnj l n none some
def xvB:EO:=xzu.f Tryz.func54 58 0 [] [(3,xjU.lp),(8,xnX.lp)] (lks (lkC xjU.ok (lkC xnX.ok lkN))) (u2 (uL 1) uI) (fun (l,n,_) _=>xnj l n) (fun _ p=>AV.list 1 p) []
def xie:Env:=xvB.E.fn 28 1 (lsOf []) (xHp [])
theorem xtL:xG3 P0 (xHL.at 1) xie:=xvB.ok.fn
theorem xrF:LoOk P0 (xHL.at xie.pin) xie (Tryz.f122.body.getD .skip):=xe4 (by kernel_rfl)
def xgV {T:Type} (k:Nat) (a n:Int) (b:LA) (δ:T) (κ:Bool×(Nat×LA)×(Nat×LA)->T):T:=br (rmB k b 1 16) (κ (false,(0,[]),(k+1,b++[AV.agg [AV.int .i64 a,AV.int .i64 n]]))) δ
def xja {T:Type} (k:Nat) (a n:Int) (b:LA) (δ:T) (κ:Bool×(Nat×LA)×(Nat×LA)->T):T:=br (decide ((↑k:Int)>0)) (br (decide (0<=i64.wrap ((↑k:Int) - 1))&&decide (i64.wrap ((↑k:Int) - 1)<(↑k:Int))) (br (decide (0+(i64.wrap ((↑k:Int) - 1)).toNat<b.length)&&xG1 (Sh.int .i64) ((b.getD (0+(i64.wrap ((↑k:Int) - 1)).toNat) .top).cells.getD 1 .top)) (br (((b.getD (0+(i64.wrap ((↑k:Int) - 1)).toNat) .top).cells.getD 1 .top).toInt==n) (κ (true,(k,b),(0,[]))) (xgV k a n b δ κ)) δ) δ) (xgV k a n b δ κ)
def xc7 (k:Nat) (a n:Int) (b:LA):=xja k a n b none some
theorem xyn (k:Nat) (a n:Int) (xs:LA):Enc (fun (p:Bool×(Nat×LA)×(Nat×LA))=>((br p.1 ((AV.osl 0 0 0 p.2.1.1,([⟨0,2,131,p.2.1.2,false,true⟩]:List Box))) ((AV.osl 0 1 0 p.2.2.1,([⟨1,2,131,p.2.2.2,false,true⟩]:List Box)))):(AV×List Box))) (xc7 k a n xs) (XFM P0 xie Tryz.f122 (Tryz.f122.body.getD .skip) [AV.osl (0:Id) 0 0 k,AV.int .i64 a,AV.int .i64 n] [{ ver:=0,sz:=2,ty:=(131:TypeId),xs:=xs,frz:=false,pm:=true }]):=by
 have h:XFM P0 xie Tryz.f122 (Tryz.f122.body.getD .skip) [AV.osl (0:Id) 0 0 k,AV.int .i64 a,AV.int .i64 n] [{ ver:=0,sz:=2,ty:=(131:TypeId),xs:=xs,frz:=false,pm:=true }]=xja k a n xs none (fun (p:Bool×(Nat×LA)×(Nat×LA))=>some ((br p.1 ((AV.osl 0 0 0 p.2.1.1,([⟨0,2,131,p.2.1.2,false,true⟩]:List Box))) ((AV.osl 0 1 0 p.2.2.1,([⟨1,2,131,p.2.2.2,false,true⟩]:List Box)))):(AV×List Box))):=by kernel_rfl
 rw [h];unfold xc7 xja xgV;repeat' (first|refine Enc.br ?_ ?_|exact Enc.none|exact Enc.some rfl)
def xym:LA->List Box->Option (Bool×AV×List Box):=omOf (xHN (sEq (xHY 0 0 0)) (xHN (sEq (pInt .i64)) (xHN (sEq (pInt .i64)) xHP))) (xHM (xH0 0 2 (131:TypeId) false true xHQ) xHO) fun (k,(a,(n,_))) (b,_)=>((xc7 k a n b).isSome,(AV.osl 0 1 0 (br ((xc7 k a n b).getD (false,(0,[]),(0,[]))).1 ((xc7 k a n b).getD (false,(0,[]),(0,[]))).2.1.1 ((xc7 k a n b).getD (false,(0,[]),(0,[]))).2.2.1),([⟨1,2,131,(br ((xc7 k a n b).getD (false,(0,[]),(0,[]))).1 ((xc7 k a n b).getD (false,(0,[]),(0,[]))).2.1.2 ((xc7 k a n b).getD (false,(0,[]),(0,[]))).2.2.2),false,true⟩]:List Box)))
theorem xyl:OmOk P0 xHL 122 (xym):=xlT fun e f j i g=>by
 obtain ⟨k,⟨b,⟨n,_⟩⟩⟩:=e;obtain ⟨h,_⟩:=f;obtain ⟨c,a⟩:=Prod.mk.inj g;have hx:=xyn _ _ _ _ _ (xcy (d:=(false,(0,[]),(0,[]))) c);revert hx a;generalize ((xc7 k b n h).getD (false,(0,[]),(0,[])))=p;intro a hx;obtain ⟨rfl,rfl⟩:=Prod.mk.inj a;obtain ⟨t,⟨l,m⟩,o,q⟩:=p;have hg:GoodM P0 xHL 122 _ _ _ _:=xg1 (p:=xie.pin) (xiH xHc (xHd P0 _) rfl xtL rfl Tryz.func122 rfl (by kernel_rfl) xrF hx)
 cases t
 . exact hg
 . exact GoodM.bump1 rfl (by decide) hg
def xs7:EO:=xvB.wM xyl
def xh3 (l:LA) (i:Int):=ixI l i
def xld {T:Type} (l a:LA) (i:Int) (δ:T) (κl:(LA×Int)->T) (κr:(LA)->T):T:=br (decide (i<l.length)) (br (xh3 l i) (br (ixT l i 3 [Sh.int .i64,Sh.int .i64] 0) (br (xfh (gC l i 0).toInt (gC l i 1).toInt) (br (xh3 l i) (br (ixS l i (Sh.int .i64) 0) (br ((xgy a (gC l i 0).toInt).isSome) (br (xh3 l i) (br (ixS l i (Sh.int .i64) 1) (br ((xgy ((xgy a (gC l i 0).toInt).getD []) (gC l i 1).toInt).isSome) (κl ((xgy ((xgy a (gC l i 0).toInt).getD []) (gC l i 1).toInt).getD [],i64.wrap (i+1))) δ) δ) δ) δ) δ) δ) (κl (a,i64.wrap (i+1)))) δ) δ) (κr (a))
def xe8 (l:LA):StT (LA×Int) (LA):=fun (a,i)=>xld l a i none inL inR
def xkt:=xs7.l 82 0 [] [] Tryz.f99 0 lk0 [0,3,4] [0,3] [(3,1,1073741824)] (q3 (qL 3) (qL 1) qI) xHO (fun (l,a,i,_) _=>(xe8 l,(a,i),fun p=>(.leaf (.exit 0) [AV.list 3 l,AV.list 1 p] []))) [] fun (l,_,_,_) _ (a,i)=>(((l,a,i,()),()),xld l a i none)
def xle {T:Type} (l b:LA) (c:Nat) (k n i:Int) (a:LA) (δ:T) (κl:(Int×Int×LA)->T) (κr:(Int×LA)->T):T:=br (decide (i<l.length)) (br (ixI l i) (br (ixT l i 3 [Sh.int .i64,Sh.int .i64] 0) (br (ixI b k) (br (ixS b k (Sh.int .i64) 0) (br (xks (gC l i 0).toInt (gC l i 1).toInt (gC b k 0).toInt) (br (ixI l i) (br (ixS l i (Sh.int .i64) 2) (κl (i64.wrap (n+(gC l i 2).toInt),i64.wrap (i+1),a)) δ) δ) (κl (n,i64.wrap (i+1),a))) δ) δ) δ) δ) (κr (n,a))
def xfa (l c:LA) (b:Nat) (k:Int):StT (Int×Int×LA) (Int×LA):=fun (n,i,a)=>xle l c b k n i a none inL inR
def xku:=xs7.l 82 0 [] [(3,xkt.lp)] Tryz.f99 2 lk0 [0,3,5,6,7,8] [0,3,5,6,7] [(5,2,131),(3,1,1073741824)] (q6 (qL 3) (qL 1) (xHY 0 0 0) qI qI qI) (q1 (qB 0 2 131 xHQ)) (fun (l,c,a,k,n,i,_) (b,_)=>(xfa l c a k,(n,i,b),fun p=>(.leaf (.exit 4) [AV.list 3 l,AV.list 1 c,AV.osl 0 0 0 a,AV.int .i64 k,AV.int .i64 p.1] [bF 0 2 131 p.2]))) (0,[]) fun (l,c,a,k,_,_,_) _ (n,i,b)=>(((l,c,a,k,n,i,()),(b,())),xle l c a k n i b none)
def xia (l c:LA) (b:Nat) (k:Int) (a:LA):=(Iter (xfa l c b k) (0,0,a)).getD (0,[])
def xh9 (l c:LA) (a:Nat) (k:Int) (b:LA):=xc7 a (gC c k 0).toInt (xia l c a k b).fst (xia l c a k b).snd
def xh8 (l c:LA) (b:Nat) (k:Int) (a:LA):=(xh9 l c b k a).getD (false,(0,[]),0,[])
def xh6 (l c:LA) (b:Nat) (k:Int) (a:LA):=(xh8 l c b k a).snd
def xh7 (l c:LA) (b:Nat) (k:Int) (a:LA):=(xh8 l c b k a).fst
def xh4 (l c:LA) (b:Nat) (k:Int) (a:LA):=(xh6 l c b k a).snd
def xh5 (l c:LA) (b:Nat) (k:Int) (a:LA):=(xh6 l c b k a).fst
def xi5 {T:Type} (l c:LA) (b:Nat) (k:Int) (a:LA) (δ:T) (κl:(Nat×Int×LA)->T) (κr:(Nat×LA)->T):T:=br (decide (k<c.length)) (br (ixI c k) (br (ixS c k (Sh.int .i64) 0) (br (decide ((gC c k 0).toInt<1099511627776)) (br ((Iter (xfa l c b k) (0,0,a)).isSome) (br (ixI c k) (br (ixS c k (Sh.int .i64) 0) (br ((xh9 l c b k a).isSome) (κl (br (xh7 l c b k a) (xh5 l c b k a).fst (xh4 l c b k a).fst,i64.wrap (k+1),br (xh7 l c b k a) (xh5 l c b k a).snd (xh4 l c b k a).snd)) δ) δ) δ) δ) (κr (b,a))) δ) δ) (κr (b,a))
def xe9 (l c:LA):StT (Nat×Int×LA) (Nat×LA):=fun (b,k,a)=>xi5 l c b k a none inL inR
def xqj:=xs7.l 82 0 [] [(3,xkt.lp),(14,xku.lp)] Tryz.f99 1 (lk1 xku.ok) [0,3,5,6] [5] [(5,2,131),(3,1,1073741824)] (q4 (qL 3) (qL 1) (xHY 0 0 0) qI) (q1 (qB 0 2 131 xHQ)) (fun (l,c,b,k,_) (a,_)=>(xe9 l c,(b,k,a),fun p=>(.leaf (.exit 2) [AV.osl 0 0 0 p.1] [bF 0 2 131 p.2]))) (0,[]) fun (l,c,_,_,_) _ (b,k,a)=>(((l,c,b,k,()),(a,())),xi5 l c b k a none)
def xpT (l:LA):=Iter (xe9 l ((Iter (xe8 l) ([AV.int .i64 0],0)).getD [])) (0,0,[])
def xpS (l:LA):=(xpT l).getD (0,[])
def xpQ (l:LA):=(xpS l).fst
def xpR (l:LA):=(xpS l).snd
def xqE {T:Type} (l:LA) (δ:T) (κ:LA->T):T:=br ((Iter (xe8 l) ([AV.int .i64 0],0)).isSome) (br ((xpT l).isSome) (br (decide (0+xpQ l<=(xpR l).length)&&true) (κ (List.take (xpQ l) (List.drop 0 (xpR l)))) δ) δ) δ
def xsX (l:LA):=xqE l none some
def xAJ:EO:=xs7.f Tryz.func99 82 0 [] [(3,xkt.lp),(14,xku.lp),(10,xqj.lp)] (lks (lkC xkt.ok (lkC xqj.ok (lkC xku.ok lkN)))) (u1 (uL 3)) (fun (l,_) _=>xqE l) (fun _ p=>AV.list 2 p) []
def xhX {T:Type} (l c:LA) (b:Nat) (i:Int) (a:LA) (δ:T) (κl:(Nat×Int×LA)->T) (κr:(Nat×LA)->T):T:=br (decide (i<l.length)) (br (ixI l i) (br (ixS l i (Sh.list 3) 0) (br ((xaU (gC l i 0).toList c).isSome) (br ((xaU (gC l i 0).toList c).getD 0==0) (br (ixI l i) (br (ixT l i 3 [Sh.int .i64,Sh.int .i64] 1) (br (rmB b a 1 24) (κl (b+1,i64.wrap (i+1),a++[AV.agg [AV.int .i64 (gC l i 1).toInt,AV.int .i64 (gC l i 2).toInt,AV.int .i64 1]])) δ) δ) δ) (κl (b,i64.wrap (i+1),a))) δ) δ) δ) (κr (b,a))
def xdn (l b:LA):StT (Nat×Int×LA) (Nat×LA):=fun (c,i,a)=>xhX l b c i a none inL inR
def xn5:=xAJ.l 32 0 [] [] Tryz.f84 0 lk0 [0,1,5,6] [5] [(5,3,136)] (q4 (qL 3) (qL 3) (xHY 0 0 0) qI) (q1 (qB 0 3 136 xHQ)) (fun (l,b,c,i,_) (a,_)=>(xdn l b,(c,i,a),fun p=>(.leaf (.exit 0) [AV.osl 0 0 0 p.1] [bF 0 3 136 p.2]))) (0,[]) fun (l,b,_,_,_) _ (c,i,a)=>(((l,b,c,i,()),(a,())),xhX l b c i a none)
def xmH (l a:LA):=(Iter (xdn l a) (0,0,[])).getD (0,[])
def xmF (l a:LA):=(xmH l a).snd
def xmG (l a:LA):=(xmH l a).fst
def xmE (l a:LA):=xsX (List.take (xmG l a) (List.drop 0 (xmF l a)))
def xnv {T:Type} (l a:LA) (δ:T) (κ:LA->T):T:=br ((Iter (xdn l a) (0,0,[])).isSome) (br (decide (0+xmG l a<=(xmF l a).length)&&true) (br ((xmE l a).isSome) (κ ((xmE l a).getD [])) δ) δ) δ
def xmD (l a:LA):=xnv l a none some
def xs8:EO:=xAJ.f Tryz.func84 32 0 [] [(3,xn5.lp)] (lk1 xn5.ok) (u2 (uL 3) (uL 3)) (fun (l,a,_) _=>xnv l a) (fun _ p=>AV.list 2 p) []
def xfY {T:Type} (a:LA) (c:Nat) (i k:Int) (b:LA) (δ:T) (κl:(Int×LA)->T) (κr:(Int×LA)->T):T:=br (decide (k<a.length)) (br (ixI a k) (br (ixS a k (Sh.list 3) 0) (br (ixI a i) (br (ixS a i (Sh.list 3) 0) (br ((xaU (gC a k 0).toList (gC a i 0).toList).isSome) (br ((xaU (gC a k 0).toList (gC a i 0).toList).getD 0==0) (κl (i64.wrap (k+1),b)) (κr (k,b))) δ) δ) δ) δ) δ) (κr (k,b))
def xbS (c:LA) (b:Nat) (i:Int):StT (Int×LA) (Int×LA):=fun (k,a)=>xfY c b i k a none inL inR
def xfn:=xs8.l 66 0 [] [] Tryz.f62 1 lk0 [3,4,5,6] [3,4,5,6] [(4,2,96)] (q4 (qL 3) (xHY 0 0 0) qI qI) (q1 (qB 0 2 96 xHQ)) (fun (c,a,i,k,_) (b,_)=>(xbS c a i,(k,b),fun p=>(.leaf (.exit 2) [AV.list 3 c,AV.osl 0 0 0 a,AV.int .i64 i,AV.int .i64 p.1] [bF 0 2 96 p.2]))) (0,[]) fun (c,a,i,_,_) _ (k,b)=>(((c,a,i,k,()),(b,())),xfY c a i k b none)
def xfZ {T:Type} (d:LA) (i k:Int) (a:LA) (c:Nat) (n:Int) (b:LA) (δ:T) (κl:(Nat×Int×LA)->T) (κr:(Nat×LA)->T):T:=br (decide (n<a.length)) (br (ixI a n) (br (ixS a n (Sh.list 3) 0) (br (decide (0<=k)&&decide (k<=d.length)&&(decide (0<=i)&&decide (i<=(↑k.toNat:Int)))) (br (ixI a n) (br (ixS a n (Sh.list 3) 0) (br ((xmD (List.take (k.toNat - i.toNat) (List.drop i.toNat d)) (gC a n 0).toList).isSome) (br (rmB c b 1 48) (κl (c+1,i64.wrap (n+1),b++[AV.agg [AV.list 3 (gC a n 0).toList,AV.list 2 ((xmD (List.take (k.toNat - i.toNat) (List.drop i.toNat d)) (gC a n 0).toList).getD [])]])) δ) δ) δ) δ) δ) δ) δ) (κr (c,b))
def xdp (d:LA) (i k:Int) (c:LA):StT (Nat×Int×LA) (Nat×LA):=fun (b,n,a)=>xfZ d i k c b n a none inL inR
def xhf:=xs8.l 66 0 [] [(6,xfn.lp)] Tryz.f62 2 lk0 [3,4,5,6,7,8] [3,4,6] [(4,2,96)] (q6 (qL 3) (xHY 0 0 0) qI qI (qL 1) qI) (q1 (qB 0 2 96 xHQ)) (fun (d,b,i,k,c,n,_) (a,_)=>(xdp d i k c,(b,n,a),fun p=>(.leaf (.exit 4) [AV.list 3 d,AV.osl 0 0 0 p.1,AV.int .i64 k] [bF 0 2 96 p.2]))) (0,[]) fun (d,_,i,k,c,_,_) _ (b,n,a)=>(((d,b,i,k,c,n,()),(a,())),xfZ d i k c b n a none)
def xcg (c:LA) (b:Nat) (i:Int) (a:LA):=((Iter (xbS c b i) (i,a)).getD (0,[])).fst
def xjx (c:LA) (a:Nat) (i:Int) (b:LA):=Iter (xdp c i (xcg c a i b) ((xoO (List.take ((xcg c a i b).toNat - i.toNat) (List.drop i.toNat c))).getD [])) (a,0,((Iter (xbS c a i) (i,b)).getD (0,[])).snd)
def xjZ (c:LA) (b:Nat) (i:Int) (a:LA):=(xjx c b i a).getD (0,[])
def xhZ {T:Type} (c:LA) (b:Nat) (i:Int) (a:LA) (δ:T) (κl:(Nat×Int×LA)->T) (κr:(Nat×LA)->T):T:=br (decide (i<c.length)) (br ((Iter (xbS c b i) (i,a)).isSome) (br (decide (0<=xcg c b i a)&&decide (xcg c b i a<=c.length)&&(decide (0<=i)&&decide (i<=(↑(xcg c b i a).toNat:Int)))) (br ((xoO (List.take ((xcg c b i a).toNat - i.toNat) (List.drop i.toNat c))).isSome) (br ((xjx c b i a).isSome) (κl ((xjZ c b i a).fst,xcg c b i a,(xjZ c b i a).snd)) δ) δ) δ) δ) (κr (b,a))
def xdo (c:LA):StT (Nat×Int×LA) (Nat×LA):=fun (b,i,a)=>xhZ c b i a none inL inR
def xn7:=xs8.l 66 0 [] [(6,xfn.lp),(10,xhf.lp)] Tryz.f62 0 (lks (lkC xfn.ok (lkC xhf.ok lkN))) [3,4,5] [4] [(4,2,96)] (q3 (qL 3) (xHY 0 0 0) qI) (q1 (qB 0 2 96 xHQ)) (fun (c,b,i,_) (a,_)=>(xdo c,(b,i,a),fun p=>(.leaf (.exit 0) [AV.osl 0 0 0 p.1] [bF 0 2 96 p.2]))) (0,[]) fun (c,_,_,_) _ (b,i,a)=>(((c,b,i,()),(a,())),xhZ c b i a none)
def xmO (l:LA):=Iter (xdo ((xbT 100 l).getD [])) (0,0,[])
def xmN (l:LA):=(xmO l).getD (0,[])
def xmL (l:LA):=(xmN l).snd
def xmM (l:LA):=(xmN l).fst
def xny {T:Type} (l:LA) (δ:T) (κ:LA->T):T:=br ((xbT 100 l).isSome) (br ((xmO l).isSome) (br (decide (0+xmM l<=(xmL l).length)&&true) (κ (List.take (xmM l) (List.drop 0 (xmL l)))) δ) δ) δ
def xjY (l:LA):=xny l none some
def xAK:EO:=xs8.f Tryz.func62 66 0 [] [(6,xfn.lp),(10,xhf.lp),(4,xn7.lp)] (lks (lkC xn7.ok (lkC xfn.ok (lkC xhf.ok lkN)))) (u1 (uL 3)) (fun (l,_) _=>xny l) (fun _ p=>AV.list 2 p) []
def xdQ (l:LA) (n i:Int):=decide ((gC l i 1).toInt>=n)
def xbR (l:LA) (i:Int):=ixI l i
def xdj (l:LA) (b:Nat) (i:Int) (a:LA):=(xb4 b (gC l i 0).toInt 1099511627776 a).getD (false,(0,[],[]),0,[])
def xdk (l:LA) (b:Nat) (i:Int) (a:LA):=xb4 b (gC l i 0).toInt ((l.getD (i64.wrap (i+1)).toNat .top).cells.getD 0 .top).toInt a
def xdl (l:LA) (i:Int):=decide (i64.wrap (i+1)<(↑l.length:Int))
def xdX (l:LA) (b:Nat) (i:Int) (a:LA):=(xdk l b i a).getD (false,(0,[],[]),0,[])
def xdY (l:LA) (b:Nat) (i:Int) (a:LA):=(xdj l b i a).snd
def xdZ (l:LA) (b:Nat) (i:Int) (a:LA):=(xdj l b i a).fst
def xdT (l:LA) (b:Nat) (i:Int) (a:LA):=(xdX l b i a).snd
def xdU (l:LA) (b:Nat) (i:Int) (a:LA):=(xdX l b i a).fst
def xdV (l:LA) (b:Nat) (i:Int) (a:LA):=(xdY l b i a).fst
def xdW (l:LA) (b:Nat) (i:Int) (a:LA):=(xdY l b i a).snd
def xdR (l:LA) (b:Nat) (i:Int) (a:LA):=(xdT l b i a).snd
def xdS (l:LA) (b:Nat) (i:Int) (a:LA):=(xdT l b i a).fst
def xc6 {T:Type} (l:LA) (n:Int) (b:Nat) (i:Int) (a:LA) (δ:T) (κl:(Nat×Int×LA)->T) (κr:(Nat×LA)->T):T:=br (decide (i<l.length)) (br (xdl l i) (br (decide (0<=i64.wrap (i+1))&&xdl l i) (br (decide ((i64.wrap (i+1)).toNat<l.length)&&xG1 (Sh.int .i64) ((l.getD (i64.wrap (i+1)).toNat .top).cells.getD 0 .top)) (br (xbR l i) (br (ixS l i (Sh.int .i64) 1) (br (xdQ l n i) (br (xbR l i) (br (ixS l i (Sh.int .i64) 0) (br ((xdk l b i a).isSome) (κl (br (xdU l b i a) (xdS l b i a).fst (xdR l b i a).fst,i64.wrap (i+1),br (xdU l b i a) (xdS l b i a).snd.snd (xdR l b i a).snd)) δ) δ) δ) (κl (b,i64.wrap (i+1),a))) δ) δ) δ) δ) (br (xbR l i) (br (ixS l i (Sh.int .i64) 1) (br (xdQ l n i) (br (xbR l i) (br (ixS l i (Sh.int .i64) 0) (br ((xb4 b (gC l i 0).toInt 1099511627776 a).isSome) (κl (br (xdZ l b i a) (xdV l b i a).fst (xdW l b i a).fst,i64.wrap (i+1),br (xdZ l b i a) (xdV l b i a).snd.snd (xdW l b i a).snd)) δ) δ) δ) (κl (b,i64.wrap (i+1),a))) δ) δ)) (κr (b,a))
def xbb (l:LA) (n:Int):StT (Nat×Int×LA) (Nat×LA):=fun (b,i,a)=>xc6 l n b i a none inL inR
def xnb:=xAK.l 42 0 [] [] Tryz.f85 0 lk0 [0,1,5,6] [5] [(5,2,56)] (q4 (qL 2) qI (xHY 0 0 0) qI) (q1 (qB 0 2 56 xHQ)) (fun (l,n,b,i,_) (a,_)=>(xbb l n,(b,i,a),fun p=>(.leaf (.exit 0) [AV.osl 0 0 0 p.1] [bF 0 2 56 p.2]))) (0,[]) fun (l,n,_,_,_) _ (b,i,a)=>(((l,n,b,i,()),(a,())),xc6 l n b i a none)
def xlG (l:LA) (n:Int):=(Iter (xbb l n) (0,0,[])).getD (0,[])
def xlE (l:LA) (n:Int):=(xlG l n).snd
def xlF (l:LA) (n:Int):=(xlG l n).fst
def xmo {T:Type} (l:LA) (n:Int) (δ:T) (κ:LA->T):T:=br ((Iter (xbb l n) (0,0,[])).isSome) (br (decide (0+xlF l n<=(xlE l n).length)&&true) (κ (List.take (xlF l n) (List.drop 0 (xlE l n)))) δ) δ
def xeN (l:LA) (n:Int):=xmo l n none some
def xAL:EO:=xAK.f Tryz.func85 42 0 [] [(3,xnb.lp)] (lk1 xnb.ok) (u2 (uL 2) uI) (fun (l,n,_) _=>xmo l n) (fun _ p=>AV.list 2 p) []
def xhW (l:LA) (i:Int):=decide (i.toNat<l.length)&&((l.getD i.toNat .top).cells.length==2&&xG8 [Sh.int .i64,Sh.int .i64] (l.getD i.toNat .top).cells 0)
def xgB {T:Type} (l:LA) (b:Nat) (i c d:Int) (a:LA) (δ:T) (κl:(Nat×Int×Int×Int×LA)->T) (κr:(Nat×Int×Int×Int×LA)->T):T:=br (decide (i<l.length)) (br (ixI l i) (br (xhW l i) (br (decide (xk9 (gC l i 0).toInt (gC l i 1).toInt c d<=0)) (br (ixI l i) (br (xhW l i) (br (rmB b a 1 16) (κl (b+1,i64.wrap (i+1),c,d,a++[AV.agg [AV.int .i64 (gC l i 0).toInt,AV.int .i64 (gC l i 1).toInt]])) δ) δ) δ) (κr (b,i,c,d,a))) δ) δ) (κr (b,i,c,d,a))
def xcB (l:LA):StT (Nat×Int×Int×Int×LA) (Nat×Int×Int×Int×LA):=fun (b,i,c,d,a)=>xgB l b i c d a none inL inR
def xoF:=xAL.l 38 0 [] [] Tryz.f86 0 lk0 [0,3,5,6] [0,3,5,6] [(5,2,56)] (q4 (qL 2) (xHZ 0 0 0 0) (xHY 1 0 0) qI) (q2 (qB 0 2 56 (q1 (xHx (q2 qI qI)))) (qB 0 2 56 xHQ)) (fun (l,_,b,i,_) (((c,d,_),_),a,_)=>(xcB l,(b,i,c,d,a),fun p=>(.leaf (.exit 0) [AV.list 2 l,AV.own 0 0 0 0,AV.osl 1 0 0 p.1,AV.int .i64 p.2.1] [bF 0 2 56 [AV.agg [AV.int .i64 p.2.2.1,AV.int .i64 p.2.2.2.1]],bF 0 2 56 p.2.2.2.2]))) (0,0,0,0,[]) fun (l,_,_,_,_) _ (b,i,c,d,a)=>(((l,(),b,i,()),(((c,d,()),()),a,())),xgB l b i c d a none)
def xmt (l:LA) (a b:Int):=Iter (xcB l) (0,0,a,b,[])
def xms (l:LA) (a b:Int):=(xmt l a b).getD (0,0,0,0,[])
def xnr (l:LA) (a b:Int):=(xms l a b).snd
def xmr (l:LA) (a b:Int):=(xms l a b).fst
def xic (l:LA) (a b:Int):=xmr l a b+1
def xid (l:LA) (a b:Int):=(xnr l a b).fst
def xnq (l:LA) (a b:Int):=(xnr l a b).snd
def xnn (l:LA) (a b:Int):=List.take (l.length - (xid l a b).toNat) (List.drop (xid l a b).toNat l)
def xnp (l:LA) (a b:Int):=(xnq l a b).snd
def xib (l:LA) (a b:Int):=xic l a b+(xnn l a b).length
def xno (l:LA) (a b:Int):=(xnp l a b).snd
def xnm (l:LA) (a b:Int):=xno l a b++[AV.agg [AV.int .i64 (xnq l a b).fst,AV.int .i64 (xnp l a b).fst]]
def xnl (l:LA) (a b:Int):=xnm l a b++xnn l a b
def xoo {T:Type} (l:LA) (a b:Int) (δ:T) (κ:LA->T):T:=br ((xmt l a b).isSome) (br (xmr l a b==(xno l a b).length&&(decide (xic l a b*16<=140737488355328)&&decide (xic l a b<=4611686018427387904))) (br (decide (0<=xid l a b)&&decide (xid l a b<=l.length)) (br (xic l a b==(xnm l a b).length&&(decide (xib l a b*16<=140737488355328)&&decide (xib l a b<=4611686018427387904))) (br (decide (0+xib l a b<=(xnl l a b).length)&&true) (κ (List.take (xib l a b) (List.drop 0 (xnl l a b)))) δ) δ) δ) δ) δ
def xnM (l:LA) (a b:Int):=xoo l a b none some
def xvC:EO:=xAL.f Tryz.func86 38 0 [] [(3,xoF.lp)] (lk1 xoF.ok) (u2 (uL 2) (xH2 (u2 uI uI))) (fun (l,(a,b,_),_) _=>xoo l a b) (fun _ p=>AV.list 2 p) []
def xhV {T:Type} (l:LA) (n:Int) (a b:LA) (i:Int) (δ:T) (κl:(LA×Int)->T) (κr:(LA)->T):T:=br (decide (i<a.length)) (br (ixI a i) (br (ixT a i 2 [Sh.int .i64,Sh.int .i64] 0) (br ((xnM b (gC a i 0).toInt (gC a i 1).toInt).isSome) (κl ((xnM b (gC a i 0).toInt (gC a i 1).toInt).getD [],i64.wrap (i+1))) δ) δ) δ) (κr (b))
def xcn (l:LA) (n:Int) (b:LA):StT (LA×Int) (LA):=fun (a,i)=>xhV l n b a i none inL inR
def xhd:=xvC.l 31 0 [] [] Tryz.f64 1 lk0 [0,3,4,5,6] [0,3,4] [(3,2,1073741824)] (q5 (qL 2) (qL 2) qI (qL 2) qI) xHO (fun (l,a,n,b,i,_) _=>(xcn l n b,(a,i),fun p=>(.leaf (.exit 2) [AV.list 2 l,AV.list 2 p,AV.int .i64 n] []))) [] fun (l,_,n,b,_,_) _ (a,i)=>(((l,a,n,b,i,()),()),xhV l n b a i none)
def xhU {T:Type} (l a:LA) (n:Int) (δ:T) (κl:(LA×Int)->T) (κr:(Bool×(LA×LA)×(LA))->T):T:=br (decide (n<=1048576)) (br ((xeN l n).isSome) (br ((↑((xeN l n).getD []).length:Int)==0) (κr (true,(a,a),[])) (br ((Iter (xcn l n ((xeN l n).getD [])) (a,0)).isSome) (κl ((Iter (xcn l n ((xeN l n).getD [])) (a,0)).getD [],i64.wrap (n+1))) δ)) δ) (κr (false,([],[]),(a)))
def xcm (l:LA):StT (LA×Int) (Bool×(LA×LA)×(LA)):=fun (a,n)=>xhU l a n none inL inR
def xnY:=xvC.l 31 0 [] [(9,xhd.lp)] Tryz.f64 0 (lk1 xhd.ok) [0,3,4] [2,3] [(3,2,1073741824)] (q3 (qL 2) (qL 2) qI) xHO (fun (l,a,n,_) _=>(xcm l,(a,n),fun p=>(.node p.1 (.leaf .ret [AV.list 2 p.2.1.1,AV.list 2 p.2.1.2] []) (.leaf (.exit 0) [.top,AV.list 2 p.2.2] [])))) (false,([],[]),[]) fun (l,_,_,_) _ (a,n)=>(((l,a,n,()),()),xhU l a n none)
def xmq (l:LA):=(Iter (xcm l) ([],1)).getD (false,([],[]),[])
def xmp (l:LA):=(xmq l).snd
def xnk {T:Type} (l:LA) (δ:T) (κ:LA->T):T:=br ((Iter (xcm l) ([],1)).isSome) (br ((xmq l).fst) (κ ((xmp l).fst.fst)) (κ ((xmp l).snd))) δ
def xeE (l:LA):=xnk l none some
def xAM:EO:=xvC.f Tryz.func64 31 0 [] [(9,xhd.lp),(3,xnY.lp)] (lks (lkC xnY.ok (lkC xhd.ok lkN))) (u1 (uL 2)) (fun (l,_) _=>xnk l) (fun _ p=>AV.list 2 p) []
def xhY {T:Type} (d c:LA) (b:Nat) (i:Int) (a:LA) (δ:T) (κl:(Nat×Int×LA)->T) (κr:(Nat×LA)->T):T:=br (decide (i<c.length)) (br (ixI c i) (br (ixT c i 2 [Sh.int .i64,Sh.int .i64] 0) (br (rmB b a 1 40) (κl (b+1,i64.wrap (i+1),a++[AV.agg [AV.list 3 d,AV.int .i64 (gC c i 0).toInt,AV.int .i64 (gC c i 1).toInt]])) δ) δ) δ) (κr (b,a))
def xco (c d:LA):StT (Nat×Int×LA) (Nat×LA):=fun (b,i,a)=>xhY c d b i a none inL inR
def xn6:=xAM.l 23 0 [] [] Tryz.f63 0 lk0 [0,1,5,6] [5] [(5,3,60)] (q4 (qL 3) (qL 2) (xHY 0 0 0) qI) (q1 (qB 0 3 60 xHQ)) (fun (c,d,b,i,_) (a,_)=>(xco c d,(b,i,a),fun p=>(.leaf (.exit 0) [AV.osl 0 0 0 p.1] [bF 0 3 60 p.2]))) (0,[]) fun (c,d,_,_,_) _ (b,i,a)=>(((c,d,b,i,()),(a,())),xhY c d b i a none)
def xmK (a b:LA):=(Iter (xco a b) (0,0,[])).getD (0,[])
def xmI (a b:LA):=(xmK a b).fst
def xmJ (a b:LA):=(xmK a b).snd
def xnw {T:Type} (a b:LA) (δ:T) (κ:LA->T):T:=br ((Iter (xco a b) (0,0,[])).isSome) (br (decide (0+xmI a b<=(xmJ a b).length)&&true) (κ (List.take (xmI a b) (List.drop 0 (xmJ a b)))) δ) δ
def xjX (a b:LA):=xnw a b none some
def xAN:EO:=xAM.f Tryz.func63 23 0 [] [(3,xn6.lp)] (lk1 xn6.ok) (u2 (uL 3) (uL 2)) (fun (a,b,_) _=>xnw a b) (fun _ p=>AV.list 3 p) []
def xjr (g:LA) (a:Nat) (i:Int):=a+((xjX (gC g i 0).toList ((xeE (gC g i 1).toList).getD [])).getD []).length
def xkv {T:Type} (g:LA) (a:Nat) (i:Int) (b:LA) (δ:T) (κl:(Nat×Int×LA)->T) (κr:(Nat×LA)->T):T:=br (decide (i<g.length)) (br (ixI g i) (br (ixS g i (Sh.list 3) 0) (br (ixI g i) (br (ixS g i (Sh.list 2) 1) (br ((xeE (gC g i 1).toList).isSome) (br ((xjX (gC g i 0).toList ((xeE (gC g i 1).toList).getD [])).isSome) (br (a==b.length&&(decide (xjr g a i*40<=140737488355328)&&decide (xjr g a i<=4611686018427387904))) (κl (xjr g a i,i64.wrap (i+1),b++(xjX (gC g i 0).toList ((xeE (gC g i 1).toList).getD [])).getD [])) δ) δ) δ) δ) δ) δ) δ) (κr (a,b))
def xeK (g:LA):StT (Nat×Int×LA) (Nat×LA):=fun (b,i,a)=>xkv g b i a none inL inR
def xpC:=xAN.l 29 0 [] [] Tryz.f30 0 lk0 [3,4,5] [4] [(4,3,60)] (q3 (qL 2) (xHY 0 0 0) qI) (q1 (qB 0 3 60 xHQ)) (fun (g,b,i,_) (a,_)=>(xeK g,(b,i,a),fun p=>(.leaf (.exit 0) [AV.osl 0 0 0 p.1] [bF 0 3 60 p.2]))) (0,[]) fun (g,_,_,_) _ (b,i,a)=>(((g,b,i,()),(a,())),xkv g b i a none)
def xpg (l:LA):=(Iter (xeK ((xjY l).getD [])) (0,0,[])).getD (0,[])
def xpe (l:LA):=(xpg l).snd
def xpf (l:LA):=(xpg l).fst
def xpV {T:Type} (l:LA) (δ:T) (κ:LA->T):T:=br ((xjY l).isSome) (br ((Iter (xeK ((xjY l).getD [])) (0,0,[])).isSome) (br (decide (0+xpf l<=(xpe l).length)&&true) (κ (List.take (xpf l) (List.drop 0 (xpe l)))) δ) δ) δ
def xcf (l:LA):=xpV l none some
def xAO:EO:=xAN.f Tryz.func30 29 0 [] [(4,xpC.lp)] (lk1 xpC.ok) (u1 (uL 3)) (fun (l,_) _=>xpV l) (fun _ p=>AV.list 3 p) []
def xkw {T:Type} (l:LA) (i:Int) (δ:T) (κl:(Int)->T) (κr:(Bool×(Bool)×(Unit))->T):T:=br (decide (i<l.length)) (br (ixI l i) (br (ixS l i (Sh.list 3) 0) (br (decide ((↑(gC l i 0).toList.length:Int)>60)) (κr (true,(false),())) (κl (i64.wrap (i+1)))) δ) δ) (κr (false,false,()))
def xcA (l:LA):StT (Int) (Bool×(Bool)×(Unit)):=fun (i)=>xkw l i none inL inR
def xpD:=xAO.l 23 0 [] [] Tryz.f16 0 lk0 [0,5] [4] [] (q2 (qL 3) qI) xHO (fun (l,i,_) _=>(xcA l,(i),fun p=>(.node p.1 (.leaf .ret [AV.bool p.2.1] []) (.leaf (.exit 0) [.top] [])))) (false,false,()) fun (l,_,_) _ (i)=>(((l,i,()),()),xkw l i none)
def xpW {T:Type} (l:LA) (a:Int) (δ:T) (κ:Bool->T):T:=br (decide ((↑l.length:Int)>a)) (κ (false)) (br ((Iter (xcA l) 0).isSome) (br (((Iter (xcA l) 0).getD (false,false,())).fst) (κ (((Iter (xcA l) 0).getD (false,false,())).snd.fst)) (κ (true))) δ)
def xlV (l:LA) (a:Int):=xpW l a none some
def xEB:EO:=xAO.f Tryz.func16 23 0 [] [(4,xpD.lp)] (lk1 xpD.ok) (u2 (uL 3) uI) (fun (l,a,_) _=>xpW l a) (fun _ p=>AV.bool p) false
def xpj {T:Type} (a b:LA) (δ:T) (κ:Bool->T):T:=br ((xcf a).isSome) (br ((xcf b).isSome) (br ((xjs ((xcf a).getD []) ((xcf b).getD [])).isSome) (κ ((xjs ((xcf a).getD []) ((xcf b).getD [])).getD false)) δ) δ) δ
def xoP (a b:LA):=xpj a b none some
def xAP:EO:=xEB.f Tryz.func31 10 0 [] [] lk0 (u2 (uL 3) (uL 3)) (fun (a,b,_) _=>xpj a b) (fun _ p=>AV.bool p) false
def xiY {T:Type} (l:LA) (b:Nat) (i:Int) (a:LA) (δ:T) (κl:(Nat×Int×LA)->T) (κr:(Nat×LA)->T):T:=br (decide (i<l.length)) (br (ixI l i) (br (ixS l i (Sh.list 3) 2) (br (ixI l i) (br (ixT l i 9 [Sh.int .i64,Sh.int .i64] 3) (br (rmB b a 1 40) (κl (b+1,i64.wrap (i+1),a++[AV.agg [AV.list 3 (gC l i 2).toList,AV.int .i64 (gC l i 3).toInt,AV.int .i64 (gC l i 4).toInt]])) δ) δ) δ) δ) δ) (κr (b,a))
def xd0 (l:LA):StT (Nat×Int×LA) (Nat×LA):=fun (b,i,a)=>xiY l b i a none inL inR
def xoG:=xAP.l 26 0 [] [] Tryz.f34 0 lk0 [0,3,4] [3] [(3,3,60)] (q3 (qL 9) (xHY 0 0 0) qI) (q1 (qB 0 3 60 xHQ)) (fun (l,b,i,_) (a,_)=>(xd0 l,(b,i,a),fun p=>(.leaf (.exit 0) [AV.osl 0 0 0 p.1] [bF 0 3 60 p.2]))) (0,[]) fun (l,_,_,_) _ (b,i,a)=>(((l,b,i,()),(a,())),xiY l b i a none)
def xnC (l:LA):=(Iter (xd0 l) (0,0,[])).getD (0,[])
def xnA (l:LA):=(xnC l).snd
def xnB (l:LA):=(xnC l).fst
def xov {T:Type} (l:LA) (δ:T) (κ:LA->T):T:=br ((Iter (xd0 l) (0,0,[])).isSome) (br (decide (0+xnB l<=(xnA l).length)&&true) (κ (List.take (xnB l) (List.drop 0 (xnA l)))) δ) δ
def xkU (l:LA):=xov l none some
def xEC:EO:=xAP.f Tryz.func34 26 0 [] [(3,xoG.lp)] (lk1 xoG.ok) (u1 (uL 9)) (fun (l,_) _=>xov l) (fun _ p=>AV.list 3 p) []
def xky (c d:Int) (g:LA) (h i b a e f:Int):Bool:=(br (xfh b a) ((a==1099511627776)) ((false)))
def xwF {T:Type} (c d:Int) (g:LA) (h i b a e f:Int) (δ:T) (κ:Bool->T):T:=br (xfh b a) (κ (a==1099511627776)) (κ (false))
def xvy:EO:=xEC.fT Tryz.func28 12 0 [] [] lk0 (fun ((a,b,g,h,i,c,d,e,f,_),_)=>xwF a b g h i c d e f none) (u1 (xH2 (xHN uI (xHN uI (u7 (uL 3) uI uI uI uI uI uI))))) (fun ((a,b,g,h,i,c,d,e,f,_),_)=>xky a b g h i c d e f) (fun _ p=>(AV.bool p))
def xix {T:Type} (l:LA) (i k:Int) (δ:T) (κl:(Int)->T) (κr:(Bool×(Bool)×(Unit))->T):T:=br (decide (k<i)) (br (ixI l i) (br (ixT l i 9 [Sh.int .i64,Sh.int .i64,Sh.list 3,Sh.int .i64,Sh.int .i64,Sh.int .i64,Sh.int .i64,Sh.int .i64,Sh.int .i64] 0) (br (xky (gC l i 0).toInt (gC l i 1).toInt (gC l i 2).toList (gC l i 3).toInt (gC l i 4).toInt (gC l i 5).toInt (gC l i 6).toInt (gC l i 7).toInt (gC l i 8).toInt) (br (ixI l k) (br (ixT l k 9 [Sh.int .i64,Sh.int .i64,Sh.list 3,Sh.int .i64,Sh.int .i64,Sh.int .i64,Sh.int .i64,Sh.int .i64,Sh.int .i64] 0) (br (xky (gC l k 0).toInt (gC l k 1).toInt (gC l k 2).toList (gC l k 3).toInt (gC l k 4).toInt (gC l k 5).toInt (gC l k 6).toInt (gC l k 7).toInt (gC l k 8).toInt) (br (ixI l i) (br (ixS l i (Sh.int .i64) 0) (br (ixI l k) (br (ixS l k (Sh.int .i64) 0) (br ((gC l i 0).toInt==(gC l k 0).toInt) (κr (true,(false),())) (κl (i64.wrap (k+1)))) δ) δ) δ) δ) (κl (i64.wrap (k+1)))) δ) δ) (κl (i64.wrap (k+1)))) δ) δ) (κr (false,false,()))
def xb3 (l:LA) (i:Int):StT (Int) (Bool×(Bool)×(Unit)):=fun (k)=>xix l i k none inL inR
def xhx:=xvy.l 41 0 [] [] Tryz.f17 1 lk0 [0,3,4] [0,2,3] [] (q3 (qL 9) qI qI) xHO (fun (l,i,k,_) _=>(xb3 l i,(k),fun p=>(.node p.1 (.leaf .ret [AV.list 9 l,AV.bool p.2.1,AV.int .i64 i] []) (.leaf (.exit 2) [AV.list 9 l,.top,AV.int .i64 i] [])))) (false,false,()) fun (l,i,_,_) _ (k)=>(((l,i,k,()),()),xix l i k none)
def xiZ {T:Type} (l:LA) (i:Int) (δ:T) (κl:(Int)->T) (κr:(Bool×(Bool)×(Unit))->T):T:=br (decide (i<l.length)) (br ((Iter (xb3 l i) 0).isSome) (br (((Iter (xb3 l i) 0).getD (false,false,())).fst) (κr (true,(((Iter (xb3 l i) 0).getD (false,false,())).snd.fst),())) (κl (i64.wrap (i+1)))) δ) (κr (false,false,()))
def xcI (l:LA):StT (Int) (Bool×(Bool)×(Unit)):=fun (i)=>xiZ l i none inL inR
def xoH:=xvy.l 41 0 [] [(5,xhx.lp)] Tryz.f17 0 (lk1 xhx.ok) [0,3] [2] [] (q2 (qL 9) qI) xHO (fun (l,i,_) _=>(xcI l,(i),fun p=>(.node p.1 (.leaf .ret [AV.bool p.2.1] []) (.leaf (.exit 0) [.top] [])))) (false,false,()) fun (l,_,_) _ (i)=>(((l,i,()),()),xiZ l i none)
def xow {T:Type} (l:LA) (δ:T) (κ:Bool->T):T:=br ((Iter (xcI l) 0).isSome) (br (((Iter (xcI l) 0).getD (false,false,())).fst) (κ (((Iter (xcI l) 0).getD (false,false,())).snd.fst)) (κ (true))) δ
def xnN (l:LA):=xow l none some
def xDk:EO:=xvy.f Tryz.func17 41 0 [] [(5,xhx.lp),(2,xoH.lp)] (lks (lkC xoH.ok (lkC xhx.ok lkN))) (u1 (uL 9)) (fun (l,_) _=>xow l) (fun _ p=>AV.bool p) false
def xd3 (c d:Int) (g:LA) (h i b a e f:Int):Bool:=(br (xgw b a) ((a==1099511627776)) ((false)))
def xvV {T:Type} (c d:Int) (g:LA) (h i b a e f:Int) (δ:T) (κ:Bool->T):T:=br (xgw b a) (κ (a==1099511627776)) (κ (false))
def xFA:EO:=xDk.fT Tryz.func57 12 0 [] [] lk0 (fun ((a,b,g,h,i,c,d,e,f,_),_)=>xvV a b g h i c d e f none) (u1 (xH2 (xHN uI (xHN uI (u7 (uL 3) uI uI uI uI uI uI))))) (fun ((a,b,g,h,i,c,d,e,f,_),_)=>xd3 a b g h i c d e f) (fun _ p=>(AV.bool p))
def xd1 (l:LA):LA:=((l))
def xug {T:Type} (l:LA) (δ:T) (κ:LA->T):T:=κ (l)
def xkY:EO:=xFA.fT Tryz.func37 4 0 [] [] lk0 (fun (l,_)=>xug l none) (u1 (uL 9)) (fun (l,_)=>xd1 l) (fun _ p=>(AV.func 67 [AV.eptr 1 [AV.list 9 p] 0 0]))
end Go.Sim.M
