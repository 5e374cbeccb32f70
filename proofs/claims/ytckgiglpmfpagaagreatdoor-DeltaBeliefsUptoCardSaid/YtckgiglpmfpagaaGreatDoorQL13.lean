/- Part 13 of the proof of the law. -/
import Derived.Test.YtckgiglpmfpagaaGreatDoorQL12
import Derived.StillTailTactics
set_option linter.unusedVariables false
set_option linter.unusedSimpArgs false
set_option maxRecDepth 100000
noncomputable section
namespace Go.Sim.M
def cmpI (x y:Int):Int:=if x<y then -1 else if y<x then 1 else 0
def orI (x y:Int):Int:=if x=0 then y else x
end Go.Sim.M
namespace Go.Proofs
open Go.RowKit Go.Sim Go.Sim.M Go.Sort Go.Lib
theorem Tryz.cmp_walk (x y:Int) (w:World):Calls Tryz.prog 51 #[.int .i64 x,.int .i64 y] w fun e w'=>e=.returned (.int .i64 (cmpI x y))/\w'=w:=by
 unfold cmpI
 go_enter Tryz.func51,Tryz.ntmps51
 go_wp2
 all_goals (go_ret;exact ⟨rfl,rfl⟩)
theorem Tryz.or_walk (x y:Int) (b off c:Nat) (w:World) (h0:w.cell? ⟨b,off,none⟩=some (.int .i64 x)) (h1:w.cell? ⟨b,off+1,none⟩=some (.int .i64 y)):Calls Tryz.prog 73 #[.slice (some ⟨b,off,none⟩) 2 c] w fun e w'=>e=.returned (.int .i64 (orI x y))/\w'=w:=by
 unfold orI;by_cases hx:x=0
 . subst hx;rw [if_pos rfl];by_cases hy:y=0
   . subst hy
     go_enter Tryz.func73,Tryz.ntmps73
     go_wp2
     refine wp_loop_rounds 3 ?_;rw [rounds_succ]
     go_wp2
     rw [rounds_succ]
     go_wp2
     rw [rounds_succ]
     go_wp2
     go_ret
     exact ⟨rfl,rfl⟩
   . have hy':(y != 0)=true:=by simpa using hy
     go_enter Tryz.func73,Tryz.ntmps73
     go_wp2
     refine wp_loop_rounds 3 ?_;rw [rounds_succ]
     go_wp2
     rw [rounds_succ]
     go_wp2
     go_ret
     exact ⟨rfl,rfl⟩
 . have hx':(x != 0)=true:=by simpa using hx
   rw [if_neg hx]
   go_enter Tryz.func73,Tryz.ntmps73
   go_wp2
   refine wp_loop_rounds 3 ?_;rw [rounds_succ]
   go_wp2
   go_ret
   exact ⟨rfl,rfl⟩
theorem fill2I (u1 u2:Int):Instr.fill (fun i=>some (i*1,1)) ((Array.range (2*1)).map (fun x=>(Value.int .i64 0).cells[x % (Value.int .i64 0).cells.size]!)) [(0,.int .i64 u1),(1,.int .i64 u2)]=some #[.int .i64 u1,.int .i64 u2]:=by
 simp [Instr.fill,Array.range,Value.cells];apply Array.ext
 . simp
 . intro i h1 h2;rcases i with _|_|i
   . simp
   . simp
   . simp at h2;omega
set_option maxHeartbeats 2000000 in
theorem Tryz.levels2_walk (a b c d:Int) (w:World):Calls Tryz.prog 91 #[.agg #[.int .i64 a,.int .i64 b],.agg #[.int .i64 c,.int .i64 d]] w fun e w'=>e=.returned (.int .i64 (orI (cmpI a c) (cmpI b d)))/\∃ q J,w'=Sort.grow (w.drewN q) J:=by
 go_enter Tryz.func91,Tryz.ntmps91
 go_wp2_with (go_at_call 51;skip)
 have g0:(w.alloc (.cells #[.int .i64 a,.int .i64 b] 56)).heap[w.heap.size]?=some (.cells #[.int .i64 a,.int .i64 b] 56 (0,0)):=heap_alloc_new w _;have g1:((w.alloc (.cells #[.int .i64 a,.int .i64 b] 56)).alloc (.cells #[.int .i64 c,.int .i64 d] 56)).heap[w.heap.size+1]?=some (.cells #[.int .i64 c,.int .i64 d] 56 (0,0)):=by
  have:=heap_alloc_new (w.alloc (.cells #[.int .i64 a,.int .i64 b] 56)) (.cells #[.int .i64 c,.int .i64 d] 56);have e:(w.alloc (.cells #[.int .i64 a,.int .i64 b] 56)).heap.size=w.heap.size+1:=by simp
  rwa [e] at this
 have f0:((w.alloc (.cells #[.int .i64 a,.int .i64 b] 56)).alloc (.cells #[.int .i64 c,.int .i64 d] 56)).cell? ⟨w.heap.size,0,none⟩=some (.int .i64 a):=by
  rw [World.cell?_alloc_past _ _ _ (by simp)];simp only [World.cell?,g0];rfl
 have f1:((w.alloc (.cells #[.int .i64 a,.int .i64 b] 56)).alloc (.cells #[.int .i64 c,.int .i64 d] 56)).cell? ⟨w.heap.size,1,none⟩=some (.int .i64 b):=by
  rw [World.cell?_alloc_past _ _ _ (by simp)];simp only [World.cell?,g0];rfl
 have f2:((w.alloc (.cells #[.int .i64 a,.int .i64 b] 56)).alloc (.cells #[.int .i64 c,.int .i64 d] 56)).cell? ⟨w.heap.size+1,0,none⟩=some (.int .i64 c):=by
  simp only [World.cell?,g1];rfl
 have f3:((w.alloc (.cells #[.int .i64 a,.int .i64 b] 56)).alloc (.cells #[.int .i64 c,.int .i64 d] 56)).cell? ⟨w.heap.size+1,1,none⟩=some (.int .i64 d):=by
  simp only [World.cell?,g1];rfl
 have f4:∃ q J,((w.alloc (.cells #[.int .i64 a,.int .i64 b] 56)).alloc (.cells #[.int .i64 c,.int .i64 d] 56))=Sort.grow (w.drewN q) J:=⟨0,_,by rw [alloc_eq_grow,alloc_eq_grow,grow_grow];rfl⟩
 generalize ((w.alloc (.cells #[.int .i64 a,.int .i64 b] 56)).alloc (.cells #[.int .i64 c,.int .i64 d] 56))=W2 at f0 f1 f2 f3 f4 |-;refine wp_region_still_tail 10 (by kernel_rfl) (by kernel_rfl) ?_
 simp only [List.take_succ_cons,List.take_zero,List.drop_succ_cons,List.drop_zero];change wpStill _ _ (World.drew W2) _ _ _;have f0':W2.drew.cell? ⟨w.heap.size,0,none⟩=some (.int .i64 a):=f0;have f1':W2.drew.cell? ⟨w.heap.size,1,none⟩=some (.int .i64 b):=f1;have f2':W2.drew.cell? ⟨w.heap.size+1,0,none⟩=some (.int .i64 c):=f2;have f3':W2.drew.cell? ⟨w.heap.size+1,1,none⟩=some (.int .i64 d):=f3;have f4':∃ q J,W2.drew=Sort.grow (w.drewN q) J:=by obtain ⟨q,J,e⟩:=f4;exact ⟨q+1,J,by rw [e];rfl⟩
 iterate 4 still_step
 still_call (Tryz.cmp_walk _ _ _)
 iterate 4 still_step
 still_call (Tryz.cmp_walk _ _ _)
 refine wpStill_nil ?_;change wpList _ _ _ _ _ (World.drew W2);generalize World.drew W2=W at f0' f1' f2' f3' f4' |-;generalize Q:cmpI a c=u1;generalize O:cmpI b d=u2;obtain ⟨ie,q1,q2,q3⟩:∃ ie,Tryz.prog.info? 3=some ie/\ie.zero=some (.int .i64 0)/\ie.size=1:=⟨(Tryz.prog.info? 3).get (by kernel_rfl),(Option.some_get _).symm,by kernel_rfl,by kernel_rfl⟩
 refine wpList_buildSlice rfl 31 3 2 _ rfl #[.int .i64 u1,.int .i64 u2] ie (.int .i64 0) (by kernel_rfl) q1 q2 (by rw [q3];decide) (by rw [q3];decide) (by rw [q3];refine Eq.trans (congrArg _ ?_) (fill2I u1 u2);simp [Act.eval]) ?_
 simp only [Act.put]
 go_wp2_with fail
 have g2:(W.alloc (.cells #[.int .i64 u1,.int .i64 u2] 3)).heap[W.heap.size]?=some (.cells #[.int .i64 u1,.int .i64 u2] 3 (0,0)):=heap_alloc_new W _;refine (Tryz.or_walk u1 u2 W.heap.size 0 2 (W.alloc (.cells #[.int .i64 u1,.int .i64 u2] 3)) (by simp only [World.cell?,g2];rfl) (by simp only [World.cell?,g2];rfl)).mono ?_
 rintro e w' ⟨rfl,rfl⟩
 go_wp2
 go_ret
 obtain ⟨q,J,hq⟩:=f4';exact ⟨by rw [Q,O];rfl,q,_,by rw [hq,alloc_eq_grow,grow_grow]⟩
end Go.Proofs
namespace Go.Sim.M
abbrev TyS:Type:=Fin 1099511627777×Int
def intsS (x:TyS):List Int:=[(x.1.val:Int),x.2]
def cmpS (x y:TyS):Int:=(x.1.val:Int) - (y.1.val:Int)
end Go.Sim.M
namespace Go.Proofs
open Go.RowKit Go.Sim Go.Sim.M Go.Sort
set_option maxHeartbeats 1000000 in
theorem Tryz.walkS (a b a' b' r:Int) (hr:IntKind.i64.wrap (a - a')=r) (W:World):Calls Tryz.prog 115 #[.agg #[.int .i64 a,.int .i64 b],.agg #[.int .i64 a',.int .i64 b']] W fun e w'=>e=.returned (.int .i64 r)/\∃ q os',w'=Sort.grow (W.drewN q) os':=by
 go_enter Tryz.func115,Tryz.ntmps115
 go_wp2
 go_ret
 subst hr;exact ⟨rfl,0,_,by rw [alloc_eq_grow,alloc_eq_grow,grow_grow];rfl⟩
end Go.Proofs
namespace Go.Sim.M
open Go.RowKit Go.Proofs Go.Sort
def isS:AV->Bool
 | .agg [.int .i64 a,.int .i64 _]=>decide (0<=a)&&decide (a<=1099511627776)
 | _=>false
def decS:AV->TyS
 | .agg [.int _ a,.int _ b]=>(Fin.ofNat 1099511627777 a.toNat,b)
 | _=>default
noncomputable def srtS (xs:List AV):List AV:=(pdqL cmpS (xs.map decS)).map (encI intsS)
theorem xF6 {x:AV} (h:isS x=true):encI intsS (decS x)=x:=by
 unfold isS at h;split at h
 . rename_i a b;simp only [Bool.and_eq_true,decide_eq_true_eq] at h;have:a.toNat % 1099511627777=a.toNat:=Nat.mod_eq_of_lt (by omega)
   simp only [decS,encI,intsS,List.map_cons,List.map_nil,Fin.ofNat,this,Int.toNat_of_nonneg h.1]
 . simp at h
theorem xEA {xs:List AV} (h:xs.all isS=true):(xs.map decS).map (encI intsS)=xs:=by
 rw [List.map_map]
 conv=>rhs;rw [<-List.map_id xs]
 refine List.map_congr_left fun x hx=>?_
 exact xF6 (List.all_eq_true.1 h x hx)
theorem ltS (x y:TyS):ltOf cmpS x y=decide (x.1.val<y.1.val):=by
 unfold ltOf cmpS;by_cases h:x.1.val<y.1.val
 . rw [decide_eq_true h,decide_eq_true (by omega)]
 . rw [decide_eq_false h,decide_eq_false (by omega)]
theorem swoS:SWO (ltOf cmpS) where
 irrefl x:=by rw [ltS];simp
 trans x y z h1 h2:=by rw [ltS] at *;simp at *;omega
 ntrans x y z h1 h2:=by rw [ltS] at *;simp at *;omega
noncomputable def xyj:List AV->List Box->Option (Bool×AV×List Box)
 | [.osl (.b 0) ver 0 n,.func g []],[⟨ver',2,ty,xs,false,true⟩]=>match Nat.beq g 115&&Nat.beq ty 131 with
  | true=>some (Nat.beq ver ver'&&(Nat.beq n xs.length&&(decide (n<4611686018427387904)&&xs.all isS)),.tuple [],[⟨ver',2,131,srtS xs,false,true⟩])
  | false=>none
 | _,_=>none
theorem xIh:OmOk Tryz.prog xMf 114 xyj:=fun Q H r H' h=>by
 unfold xyj at h;split at h
 . rename_i ver n g O ty xs;split at h
   case h_2=>simp at h
   rename_i hg;simp only [Bool.and_eq_true] at hg;obtain rfl:=Nat.eq_of_beq_eq_true hg.1;obtain rfl:=Nat.eq_of_beq_eq_true hg.2;simp only [Option.some.injEq,Prod.mk.injEq,Bool.and_eq_true,decide_eq_true_eq] at h;obtain ⟨⟨h1,h2,h3,h4⟩,rfl,rfl⟩:=h;obtain rfl:=Nat.eq_of_beq_eq_true h1;obtain rfl:=Nat.eq_of_beq_eq_true h2;have q:∃ ti,xLy Tryz.prog 131=some ti/\ti.sz=2/\ti.agg=true:=by
    have h:(match xLy Tryz.prog 131 with|some ti=>(ti.sz==2)&&ti.agg|none=>false)=true:=by kernel_rfl
    split at h
    . rename_i ti q;simp only [Bool.and_eq_true,beq_iff_eq] at h;exact ⟨ti,q,h.1,h.2⟩
    . simp at h
   obtain ⟨ti,q,hz,ha⟩:=q;have J:=xte (P:=Tryz.prog) (Inv:=xMf) Tryz.srl114 2 (by decide) (fun w=>by rw [<-ha];exact xni q w) (fun w=>by rw [<-hz];exact xeo q w)
    intsS (fun _=>rfl) cmpS swoS 115 (xgK Tryz.func114 rfl (by kernel_rfl)) (xno (xgK Tryz.func115 rfl (by kernel_rfl)))
    (fun x y W=>Tryz.walkS _ _ _ _ (cmpS x y) (by
     have:=x.1.isLt;have:=y.1.isLt;unfold cmpS;exact xbE (by omega) (by omega)) W)
    ver 131 rfl (xs.map decS) (by simpa using h3)
   rw [List.length_map,xEA h4] at J;exact J
 . simp at h
end Go.Sim.M
namespace Go.Sim.M
abbrev TyP:Type:=Int×Int
def intsP (x:TyP):List Int:=[x.1,x.2]
def cmpP (x y:TyP):Int:=orI (cmpI x.1 y.1) (cmpI x.2 y.2)
end Go.Sim.M
namespace Go.Sim.M
open Go.RowKit Go.Proofs Go.Sort
def isP:AV->Bool
 | .agg [.int .i64 _,.int .i64 _]=>true
 | _=>false
def decP:AV->TyP
 | .agg [.int _ a,.int _ b]=>(a,b)
 | _=>default
noncomputable def srtP (xs:List AV):List AV:=(pdqL cmpP (xs.map decP)).map (encI intsP)
theorem xF5 {x:AV} (h:isP x=true):encI intsP (decP x)=x:=by
 unfold isP at h;split at h
 . rfl
 . simp at h
theorem xEz {xs:List AV} (h:xs.all isP=true):(xs.map decP).map (encI intsP)=xs:=by
 rw [List.map_map]
 conv=>rhs;rw [<-List.map_id xs]
 refine List.map_congr_left fun x hx=>?_
 exact xF5 (List.all_eq_true.1 h x hx)
theorem ltP (x y:TyP):ltOf cmpP x y=decide (x.1<y.1\/x.1=y.1/\x.2<y.2):=by
 unfold ltOf cmpP orI cmpI;by_cases h:x.1<y.1\/x.1=y.1/\x.2<y.2
 . rw [decide_eq_true h];simp only [decide_eq_true_eq];rcases h with h|⟨h,h'⟩
   . simp [h]
   . simp [h,h']
 . rw [decide_eq_false h];simp only [decide_eq_false_iff_not];have h1:¬ x.1<y.1:=fun e=>h (.inl e)
   by_cases h2:y.1<x.1
   . simp [h1,h2]
   . have h3:x.1=y.1:=by omega
     have h4:¬ x.2<y.2:=fun e=>h (.inr ⟨h3,e⟩)
     by_cases h5:y.2<x.2
     . simp [h1,h2,h4,h5]
     . simp [h1,h2,h4,h5]
theorem swoP:SWO (ltOf cmpP) where
 irrefl x:=by rw [ltP];simp
 trans x y z h1 h2:=by rw [ltP] at *;simp only [decide_eq_true_eq] at *;omega
 ntrans x y z h1 h2:=by rw [ltP] at *;simp only [decide_eq_true_eq,decide_eq_false_iff_not] at *;omega
noncomputable def xyi:List AV->List Box->Option (Bool×AV×List Box)
 | [.osl (.b 0) ver 0 n,.func g []],[⟨ver',2,ty,xs,false,true⟩]=>match Nat.beq g 91&&Nat.beq ty 56 with
  | true=>some (Nat.beq ver ver'&&(Nat.beq n xs.length&&(decide (n<4611686018427387904)&&xs.all isP)),.tuple [],[⟨ver',2,56,srtP xs,false,true⟩])
  | false=>none
 | _,_=>none
theorem xIg:OmOk Tryz.prog xMf 90 xyi:=fun Q H r H' h=>by
 unfold xyi at h;split at h
 . rename_i ver n g O ty xs;split at h
   case h_2=>simp at h
   rename_i hg;simp only [Bool.and_eq_true] at hg;obtain rfl:=Nat.eq_of_beq_eq_true hg.1;obtain rfl:=Nat.eq_of_beq_eq_true hg.2;simp only [Option.some.injEq,Prod.mk.injEq,Bool.and_eq_true,decide_eq_true_eq] at h;obtain ⟨⟨h1,h2,h3,h4⟩,rfl,rfl⟩:=h;obtain rfl:=Nat.eq_of_beq_eq_true h1;obtain rfl:=Nat.eq_of_beq_eq_true h2;have q:∃ ti,xLy Tryz.prog 56=some ti/\ti.sz=2/\ti.agg=true:=by
    have h:(match xLy Tryz.prog 56 with|some ti=>(ti.sz==2)&&ti.agg|none=>false)=true:=by kernel_rfl
    split at h
    . rename_i ti q;simp only [Bool.and_eq_true,beq_iff_eq] at h;exact ⟨ti,q,h.1,h.2⟩
    . simp at h
   obtain ⟨ti,q,hz,ha⟩:=q;have J:=xte (P:=Tryz.prog) (Inv:=xMf) Tryz.srl90 2 (by decide) (fun w=>by rw [<-ha];exact xni q w) (fun w=>by rw [<-hz];exact xeo q w)
    intsP (fun _=>rfl) cmpP swoP 91 (xgK Tryz.func90 rfl (by kernel_rfl)) (xno (xgK Tryz.func91 rfl (by kernel_rfl)))
    (fun x y W=>Tryz.levels2_walk _ _ _ _ W)
    ver 56 rfl (xs.map decP) (by simpa using h3)
   rw [List.length_map,xEz h4] at J;exact J
 . simp at h
end Go.Sim.M
namespace Go.Sim.M
open Go.RowKit Go.Proofs
noncomputable def E1:Env:=(xG6.E.withM 114 xyj).withM 90 xyi
theorem xG0:xLz Tryz.prog xMf E1:=(xG6.ok.withM xIh).withM xIg
noncomputable def xJB:EO:=EO.mk E1 xG0
end Go.Sim.M
namespace Go.Sim.M
open Go.IntKind (i64 u64 u8)
open Go.RowKit Go.Proofs
def xju:Env:=E1.fn 29 1 (lsOf []) (xLV [])
theorem xwP:xLz P0 (xMf.at 1) xju:=xG0.fn
theorem xuc:LoOk P0 (xMf.at xju.pin) xju (Tryz.f116.body.getD .skip):=xfp (by kernel_rfl)
def xqv {T:Type} (k:Nat) (a n:Int) (b:LA) (δ:T) (κ:Bool×(Nat×LA)×(Nat×LA)->T):T:=br (rmB k b 1 16) (κ (false,(0,[]),(k+1,b++[AV.agg [AV.int .i64 a,AV.int .i64 n]]))) δ
def xse {T:Type} (k:Nat) (b n:Int) (a:LA) (δ:T) (κ:Bool×(Nat×LA)×(Nat×LA)->T):T:=br (decide ((↑k:Int)>0)) (br (decide (0<=i64.wrap ((↑k:Int) - 1))&&decide (i64.wrap ((↑k:Int) - 1)<(↑k:Int))) (br (decide (0+(i64.wrap ((↑k:Int) - 1)).toNat<a.length)&&xLw (Sh.int .i64) ((a.getD (0+(i64.wrap ((↑k:Int) - 1)).toNat) .top).cells.getD 1 .top)) (br (((a.getD (0+(i64.wrap ((↑k:Int) - 1)).toNat) .top).cells.getD 1 .top).toInt==n) (κ (true,(k,a),(0,[]))) (xqv k b n a δ κ)) δ) δ) (xqv k b n a δ κ)
def xdZ (k:Nat) (a n:Int) (b:LA):=xse k a n b none some
theorem xBP (k:Nat) (a n:Int) (xs:LA):Enc (fun (p:Bool×(Nat×LA)×(Nat×LA))=>((br p.1 ((AV.osl 0 0 0 p.2.1.1,([⟨0,2,131,p.2.1.2,false,true⟩]:List Box))) ((AV.osl 0 1 0 p.2.2.1,([⟨1,2,131,p.2.2.2,false,true⟩]:List Box)))):(AV×List Box))) (xdZ k a n xs) (XFM P0 xju Tryz.f116 (Tryz.f116.body.getD .skip) [AV.osl (0:Id) 0 0 k,AV.int .i64 a,AV.int .i64 n] [{ ver:=0,sz:=2,ty:=(131:TypeId),xs:=xs,frz:=false,pm:=true }]):=by
 have h:XFM P0 xju Tryz.f116 (Tryz.f116.body.getD .skip) [AV.osl (0:Id) 0 0 k,AV.int .i64 a,AV.int .i64 n] [{ ver:=0,sz:=2,ty:=(131:TypeId),xs:=xs,frz:=false,pm:=true }]=xse k a n xs none (fun (p:Bool×(Nat×LA)×(Nat×LA))=>some ((br p.1 ((AV.osl 0 0 0 p.2.1.1,([⟨0,2,131,p.2.1.2,false,true⟩]:List Box))) ((AV.osl 0 1 0 p.2.2.1,([⟨1,2,131,p.2.2.2,false,true⟩]:List Box)))):(AV×List Box))):=by kernel_rfl
 rw [h];unfold xdZ xse xqv;repeat' (first|refine Enc.br ?_ ?_|exact Enc.none|exact Enc.some rfl)
def xBO:LA->List Box->Option (Bool×AV×List Box):=omOf (xMh (sEq (xMs 0 0 0)) (xMh (sEq (pInt .i64)) (xMh (sEq (pInt .i64)) xMj))) (xMg (xMv 0 2 (131:TypeId) false true xMk) xMi) fun (k,(a,(n,_))) (b,_)=>((xdZ k a n b).isSome,(AV.osl 0 1 0 (br ((xdZ k a n b).getD (false,(0,[]),(0,[]))).1 ((xdZ k a n b).getD (false,(0,[]),(0,[]))).2.1.1 ((xdZ k a n b).getD (false,(0,[]),(0,[]))).2.2.1),([⟨1,2,131,(br ((xdZ k a n b).getD (false,(0,[]),(0,[]))).1 ((xdZ k a n b).getD (false,(0,[]),(0,[]))).2.1.2 ((xdZ k a n b).getD (false,(0,[]),(0,[]))).2.2.2),false,true⟩]:List Box)))
theorem xBN:OmOk P0 xMf 116 (xBO):=xnc fun e f j i g=>by
 obtain ⟨k,⟨b,⟨n,_⟩⟩⟩:=e;obtain ⟨h,_⟩:=f;obtain ⟨c,a⟩:=Prod.mk.inj g;have hx:=xBP _ _ _ _ _ (xbF (d:=(false,(0,[]),(0,[]))) c);revert hx a;generalize ((xdZ k b n h).getD (false,(0,[]),(0,[])))=p;intro a hx;obtain ⟨rfl,rfl⟩:=Prod.mk.inj a;obtain ⟨t,⟨l,m⟩,o,q⟩:=p;have hg:GoodM P0 xMf 116 _ _ _ _:=xhy (p:=xju.pin) (xjw xLI (xLJ P0 _) rfl xwP rfl Tryz.func116 rfl (by kernel_rfl) xuc hx)
 cases t
 . exact hg
 . exact GoodM.bump1 rfl (by decide) hg
def xtw:EO:=xJB.wM xBN
def xmu {T:Type} (d:LA) (e:Int) (b:Nat) (c:Int) (a:LA) (δ:T) (κl:(Nat×Int×LA)->T) (κr:(Nat×LA)->T):T:=br (decide (c<e)) (br (ixI d c) (br (ixT d c 3 [Sh.int .i64,Sh.int .i64,Sh.int .i64] 0) (br (xbb (gC d c 0).toInt (gC d c 1).toInt) (br (rmB b a 2 16) (κl (b+2,i64.wrap (c+1),a++[AV.agg [AV.int .i64 (gC d c 0).toInt,AV.int .i64 (gC d c 2).toInt],AV.agg [AV.int .i64 (gC d c 1).toInt,AV.int .i64 (i64.wrap (0 - (gC d c 2).toInt))]])) δ) (κl (b,i64.wrap (c+1),a))) δ) δ) (κr (b,a))
def xfz (c:LA) (d:Int):StT (Nat×Int×LA) (Nat×LA):=fun (b,e,a)=>xmu c d b e a none inL inR
def xji:=xtw.l 106 0 [] [] Tryz.f92 0 lk0 [3,10,11,12] [3] [(3,2,131)] (q4 (xMs 0 0 0) (qL 3) qI qI) (q1 (qB 0 2 131 xMk)) (fun (b,c,d,e,_) (a,_)=>(xfz c d,(b,e,a),fun p=>(.leaf (.exit 0) [AV.osl 0 0 0 p.1] [bF 0 2 131 p.2]))) (0,[]) fun (_,c,d,_,_) _ (b,e,a)=>(((b,c,d,e,()),(a,())),xmu c d b e a none)
def xss (i:Int) (a:LA):=decide (0+i.toNat<a.length)
def xtf {T:Type} (b e:Nat) (d i:Int) (a c:LA) (δ:T) (κl:(Int×Int×LA×LA)->T) (κr:(Int×Int×LA×LA)->T):T:=br (decide (i<(↑b:Int))) (br (decide (0<=i)&&decide (i<(↑b:Int))) (br (xss i a&&xLw (Sh.int .i64) ((a.getD (0+i.toNat) .top).cells.getD 0 .top)) (br (((a.getD (0+i.toNat) .top).cells.getD 0 .top).toInt==0) (br (decide (0<=i)&&decide (i<(↑b:Int))) (br (xss i a&&xLw (Sh.int .i64) ((a.getD (0+i.toNat) .top).cells.getD 1 .top)) (κl (i64.wrap (d+((a.getD (0+i.toNat) .top).cells.getD 1 .top).toInt),i64.wrap (i+1),a,c)) δ) δ) (κr (d,i,a,c))) δ) δ) (κr (d,i,a,c))
def xjY (b d:Nat):StT (Int×Int×LA×LA) (Int×Int×LA×LA):=fun (e,i,a,c)=>xtf b d e i a c none inL inR
def xlG:=xtw.l 106 0 [] [(3,xji.lp)] Tryz.f92 1 lk0 [3,6,7,8] [3,6,7,8] [(3,2,131),(6,2,131)] (q4 (xMs 0 0 0) (xMs 1 0 0) qI qI) (q2 (qB 0 2 131 xMk) (qB 0 2 131 xMk)) (fun (a,c,e,i,_) (b,d,_)=>(xjY a c,(e,i,b,d),fun p=>(.leaf (.exit 2) [AV.osl 0 0 0 a,AV.osl 1 0 0 c,AV.int .i64 p.1,AV.int .i64 p.2.1] [bF 0 2 131 p.2.2.1,bF 0 2 131 p.2.2.2]))) (0,0,[],[]) fun (a,c,_,_,_) _ (e,i,b,d)=>(((a,c,e,i,()),(b,d,())),xtf a c e i b d none)
def xjt (i:Int) (a:LA):=decide (0+i.toNat<a.length)
def xj6 {T:Type} (b f:Nat) (e d i:Int) (a c:LA) (δ:T) (κl:(Int×Int×LA×LA)->T) (κr:(Int×Int×LA×LA)->T):T:=br (decide (i<(↑b:Int))) (br (decide (0<=i)&&decide (i<(↑b:Int))) (br (xjt i a&&xLw (Sh.int .i64) ((a.getD (0+i.toNat) .top).cells.getD 0 .top)) (br (((a.getD (0+i.toNat) .top).cells.getD 0 .top).toInt==e) (br (decide (0<=i)&&decide (i<(↑b:Int))) (br (xjt i a&&xLw (Sh.int .i64) ((a.getD (0+i.toNat) .top).cells.getD 1 .top)) (κl (i64.wrap (d+((a.getD (0+i.toNat) .top).cells.getD 1 .top).toInt),i64.wrap (i+1),a,c)) δ) δ) (κr (d,i,a,c))) δ) δ) (κr (d,i,a,c))
def xer (b d:Nat) (e:Int):StT (Int×Int×LA×LA) (Int×Int×LA×LA):=fun (f,i,a,c)=>xj6 b d e f i a c none inL inR
def xlH:=xtw.l 106 0 [] [(3,xji.lp),(11,xlG.lp)] Tryz.f92 3 lk0 [3,6,7,8,9] [3,6,7,8,9] [(3,2,131),(6,2,131)] (q5 (xMs 0 0 0) (xMs 1 0 0) qI qI qI) (q2 (qB 0 2 131 xMk) (qB 0 2 131 xMk)) (fun (a,c,f,i,e,_) (b,d,_)=>(xer a c e,(f,i,b,d),fun p=>(.leaf (.exit 6) [AV.osl 0 0 0 a,AV.osl 1 0 0 c,AV.int .i64 p.1,AV.int .i64 p.2.1,AV.int .i64 e] [bF 0 2 131 p.2.2.1,bF 0 2 131 p.2.2.2]))) (0,0,[],[]) fun (a,c,_,_,e,_) _ (f,i,b,d)=>(((a,c,f,i,e,()),(b,d,())),xj6 a c e f i b d none)
def xh4 (i:Int) (a:LA):=decide (0+i.toNat<a.length)&&xLw (Sh.int .i64) ((a.getD (0+i.toNat) .top).cells.getD 0 .top)
def xf9 (i:Int) (a:LA):=((a.getD (0+i.toNat) .top).cells.getD 0 .top).toInt
def xh5 (b d:Nat) (e i:Int) (a c:LA):=Iter (xer b d (xf9 i a)) (e,i,a,c)
def xjs (b d:Nat) (e i:Int) (a c:LA):=(xh5 b d e i a c).getD (0,0,[],[])
def xjq (b d:Nat) (e i:Int) (a c:LA):=(xjs b d e i a c).snd
def xjr (b d:Nat) (e i:Int) (a c:LA):=(xjs b d e i a c).fst
def xjp (b d:Nat) (e i:Int) (a c:LA):=(xjq b d e i a c).snd
def xjo (b c:Nat) (e i:Int) (a d:LA):=xdZ c (xf9 i a) (xjr b c e i a d) (xjp b c e i a d).snd
def xjn (b d:Nat) (e i:Int) (a c:LA):=(xjo b d e i a c).getD (false,(0,[]),0,[])
def xjl (b d:Nat) (e i:Int) (a c:LA):=(xjn b d e i a c).fst
def xjm (b d:Nat) (e i:Int) (a c:LA):=(xjn b d e i a c).snd
def xjj (b d:Nat) (e i:Int) (a c:LA):=(xjm b d e i a c).fst
def xjk (b d:Nat) (e i:Int) (a c:LA):=(xjm b d e i a c).snd
def xj5 {T:Type} (b d:Nat) (e i:Int) (a c:LA) (δ:T) (κl:(Nat×Int×Int×LA×LA)->T) (κr:(Nat×LA)->T):T:=br (decide (i<(↑b:Int))) (br (decide (0<=i)&&decide (i<(↑b:Int))) (br (xh4 i a) (br (decide (xf9 i a<1099511627776)) (br (decide (0<=i)&&decide (i<(↑b:Int))) (br (xh4 i a) (br ((xh5 b d e i a c).isSome) (br ((xjo b d e i a c).isSome) (κl (br (xjl b d e i a c) (xjj b d e i a c).fst (xjk b d e i a c).fst,xjr b d e i a c,(xjq b d e i a c).fst,(xjp b d e i a c).fst,br (xjl b d e i a c) (xjj b d e i a c).snd (xjk b d e i a c).snd)) δ) δ) δ) δ) (κr (d,c))) δ) δ) (κr (d,c))
def xfA (b:Nat):StT (Nat×Int×Int×LA×LA) (Nat×LA):=fun (d,e,i,a,c)=>xj5 b d e i a c none inL inR
def xst:=xtw.l 106 0 [] [(3,xji.lp),(11,xlG.lp),(17,xlH.lp)] Tryz.f92 2 (lk1 xlH.ok) [3,6,7,8] [6] [(3,2,131),(6,2,131)] (q4 (xMs 0 0 0) (xMs 1 0 0) qI qI) (q2 (qB 0 2 131 xMk) (qB 0 2 131 xMk)) (fun (b,d,e,i,_) (a,c,_)=>(xfA b,(d,e,i,a,c),fun p=>(.leaf (.exit 4) [AV.osl 0 0 0 p.1] [bF 0 2 131 p.2]))) (0,[]) fun (b,_,_,_,_) _ (d,e,i,a,c)=>(((b,d,e,i,()),(a,c,())),xj5 b d e i a c none)
def xrw (l:LA):=(Iter (xfz l (↑l.length:Int)) (0,0,[])).getD (0,[])
def xlj (l:LA):=(xrw l).fst
def xoB (l:LA):=(xrw l).snd
def xrv (l:LA):=Iter (xjY (xlj l) 0) (0,0,srtS (xoB l),[])
def xru (l:LA):=(xrv l).getD (0,0,[],[])
def xrs (l:LA):=(xru l).snd
def xrt (l:LA):=(xru l).fst
def xrr (l:LA):=(xrs l).snd
def xsd (l:LA):=xdZ 0 0 (xrt l) (xrr l).snd
def xsc (l:LA):=(xsd l).getD (false,(0,[]),0,[])
def xsa (l:LA):=(xsc l).fst
def xsb (l:LA):=(xsc l).snd
def xr8 (l:LA):=(xsb l).fst
def xr9 (l:LA):=(xsb l).snd
def xr7 (l:LA):=Iter (xfA (xlj l)) (br (xsa l) (xr8 l).fst (xr9 l).fst,xrt l,(xrs l).fst,(xrr l).fst,br (xsa l) (xr8 l).snd (xr9 l).snd)
def xr6 (l:LA):=(xr7 l).getD (0,[])
def xr4 (l:LA):=(xr6 l).snd
def xr5 (l:LA):=(xr6 l).fst
def xs0 {T:Type} (l:LA) (δ:T) (κ:LA->T):T:=br ((Iter (xfz l (↑l.length:Int)) (0,0,[])).isSome) (br ((xlj l).beq (xoB l).length&&(decide (xlj l<4611686018427387904)&&(xoB l).all isS)) (br ((xrv l).isSome) (br ((xsd l).isSome) (br ((xr7 l).isSome) (br (decide (0+xr5 l<=(xr4 l).length)&&true) (κ (List.take (xr5 l) (List.drop 0 (xr4 l)))) δ) δ) δ) δ) δ) δ
def xsx (l:LA):=xs0 l none some
def xD5:EO:=xtw.f Tryz.func92 106 0 [] [(3,xji.lp),(11,xlG.lp),(17,xlH.lp),(15,xst.lp)] (lks (lkC xji.ok (lkC xlG.ok (lkC xst.ok (lkC xlH.ok lkN))))) (u1 (uL 3)) (fun (l,_) _=>xs0 l) (fun _ p=>AV.list 2 p) []
def xfQ {T:Type} (d:LA) (e:Int) (c:Nat) (b:Int) (a:LA) (δ:T) (κl:(Nat×Int×LA)->T) (κr:(Nat×LA)->T):T:=br (decide (b<e)) (br (ixI d b) (br (ixT d b 2 [Sh.int .i64,Sh.int .i64] 0) (br (rmB c a 1 24) (κl (c+1,i64.wrap (b+1),a++[AV.agg [AV.int .i64 (gC d b 0).toInt,AV.int .i64 (gC d b 1).toInt,AV.int .i64 1]])) δ) δ) δ) (κr (c,a))
def xcm (c:LA) (d:Int):StT (Nat×Int×LA) (Nat×LA):=fun (b,e,a)=>xfQ c d b e a none inL inR
def xl0:=xD5.l 20 0 [] [] Tryz.f71 0 lk0 [3,6,7,8] [3] [(3,3,136)] (q4 (xMs 0 0 0) (qL 2) qI qI) (q1 (qB 0 3 136 xMk)) (fun (b,c,d,e,_) (a,_)=>(xcm c d,(b,e,a),fun p=>(.leaf (.exit 0) [AV.osl 0 0 0 p.1] [bF 0 3 136 p.2]))) (0,[]) fun (_,c,d,_,_) _ (b,e,a)=>(((b,c,d,e,()),(a,())),xfQ c d b e a none)
def xkg (l:LA):=(Iter (xcm l (↑l.length:Int)) (0,0,[])).getD (0,[])
def xke (l:LA):=(xkg l).fst
def xkf (l:LA):=(xkg l).snd
def xkd (l:LA):=xsx (List.take (xke l) (List.drop 0 (xkf l)))
def xkC {T:Type} (l:LA) (δ:T) (κ:LA->T):T:=br ((Iter (xcm l (↑l.length:Int)) (0,0,[])).isSome) (br (decide (0+xke l<=(xkf l).length)&&true) (br ((xkd l).isSome) (κ ((xkd l).getD [])) δ) δ) δ
def xfi (l:LA):=xkC l none some
def xsf:EO:=xD5.f Tryz.func71 20 0 [] [(3,xl0.lp)] (lk1 xl0.ok) (u1 (uL 2)) (fun (l,_) _=>xkC l) (fun _ p=>AV.list 2 p) []
def xkt {T:Type} (o n:Int) (e f:Nat) (k p m j:Int) (h l i g a:Nat) (b:LA) (d:Nat) (c:LA) (δ:T) (κl:(Int×Int×Nat×Nat×Nat×Nat×Nat×LA×Nat×LA)->T) (κr:(Int×Nat×Nat×Nat×Nat×LA×Nat×LA×Nat)->T):T:=br (decide (m<p)) (br (a==e) (br (a==e) (br (a==e&&(decide (f<b.length)&&xLw (Sh.int .i64) ((b.getD f .top).cells.getD 0 .top))) (br (d==g&&(rmB i c 1 16)) (κl (i64.wrap (m+1),j,h,l,i+1,g+1,a,List.take h b,g+1,c++[AV.agg [AV.int .i64 ((b.getD f .top).cells.getD 0 .top).toInt,AV.int .i64 o]])) δ) δ) δ) δ) (κr (j,l,h,g,i,b,a,c,d))
def xdk (m n:Int) (e f:Nat) (k o:Int):StT (Int×Int×Nat×Nat×Nat×Nat×Nat×LA×Nat×LA) (Int×Nat×Nat×Nat×Nat×LA×Nat×LA×Nat):=fun (p,g,h,i,j,l,a,b,c,d)=>xkt m n e f k o p g h i j l a b c d none inL inR
def xjQ:=xsf.l 71 5 [] [] Tryz.f89 1 lk0 [0,1,2,3,4,7,8,37,38] [0,1,2,3,4,7,8] [(3,0,0)] (q9 qI qI (xMt 0 0 0 0) (xMt 1 0 0 0) (xMt 2 0 0 0) (pOwnV 3 0) qI qI qI) (q5 (qB 0 1 3 (q1 qI)) (xMv 0 1 125 false false (q1 (pOslV 3 0))) (xMv 0 1 97 false false (q1 (pOslV 4 0))) (pBoxV 2 127 false true xMk) (pBoxV 2 56 false true xMk)) (fun (o,n,_,_,_,(e,f),k,q,r,_) ((g,_),((h,i),_),((j,m),_),(a,b),(c,d),_)=>(xdk o n e f k q,(r,g,i,h,m,j,a,b,c,d),fun p=>(.leaf (.exit 2) [AV.int .i64 o,AV.int .i64 n,AV.own 0 0 0 0,AV.own 1 0 0 0,AV.own 2 0 0 0,AV.own 3 e f 0,AV.int .i64 k] [bF 0 1 3 [AV.int .i64 p.1],⟨0,1,125,[AV.osl 3 p.2.1 0 p.2.2.1],false,false⟩,⟨0,1,97,[AV.osl 4 p.2.2.2.1 0 p.2.2.2.2.1],false,false⟩,bF p.2.2.2.2.2.2.1 2 127 p.2.2.2.2.2.1,bF p.2.2.2.2.2.2.2.2 2 56 p.2.2.2.2.2.2.2.1]))) (0,0,0,0,0,[],0,[],0) fun (o,n,_,_,_,(e,f),k,q,_,_) _ (r,g,i,h,m,j,a,b,c,d)=>(((o,n,(),(),(),(e,f),k,q,r,()),((g,()),((h,i),()),((j,m),()),(a,b),(c,d),())),xkt o n e f k q r g i h m j a b c d none)
def xbe (a:Nat):Nat:=0+(i64.wrap ((↑a:Int) - 1)).toNat
def xdW (n b:Int) (c d:Nat) (a:LA):Int:=if i64.wrap (b - n)<((a.getD (xbe c) .top).cells.getD 1 .top).toInt then i64.wrap (b - n) else ((a.getD (xbe c) .top).cells.getD 1 .top).toInt
def xiw (j n d:Int) (c g h i a:Nat) (b:LA) (e:Nat) (f:LA):=Iter (xdk j n g (xbe c) (xdW n d c a b) (xdW n d c a b)) (0,d,c,g,h,i,a,List.take c b,e,f)
def xgf (j n e:Int) (f g h i a:Nat) (b:LA) (c:Nat) (d:LA):=(xiw j n e f g h i a b c d).getD (0,0,0,0,0,[],0,[],0)
def xiv (j n e:Int) (f g h i a:Nat) (b:LA) (c:Nat) (d:LA):=(xgf j n e f g h i a b c d).snd
def xfn (j n e:Int) (f g h i a:Nat) (b:LA) (c:Nat) (d:LA):=(xiv j n e f g h i a b c d).fst
def xiu (j n e:Int) (f g h i a:Nat) (b:LA) (c:Nat) (d:LA):=(xiv j n e f g h i a b c d).snd
def xfm (j n e:Int) (f g h i a:Nat) (b:LA) (c:Nat) (d:LA):=(xiu j n e f g h i a b c d).fst
def xge (j n e:Int) (f g h i a:Nat) (b:LA) (c:Nat) (d:LA):=(xiu j n e f g h i a b c d).snd
def xfl (j n e:Int) (f g h i a:Nat) (b:LA) (c:Nat) (d:LA):=i64.wrap ((↑(xfm j n e f g h i a b c d):Int) - 1)
def xgd (j n e:Int) (f g h i a:Nat) (b:LA) (c:Nat) (d:LA):=(xge j n e f g h i a b c d).snd
def xit (j n e:Int) (f g h i a:Nat) (b:LA) (c:Nat) (d:LA):=(xgd j n e f g h i a b c d).snd
def xgW (j n e:Int) (f g h i a:Nat) (b:LA) (c:Nat) (d:LA):=(xit j n e f g h i a b c d).fst
def xjP (j n e:Int) (f g h i a:Nat) (b:LA) (c:Nat) (d:LA):=(xit j n e f g h i a b c d).snd
def xdj (j n f:Int) (g e h i a:Nat) (b:LA) (c:Nat) (d:LA):=(xjP j n f g e h i a b c d).fst==e
def xjO (j n f:Int) (e g h i a:Nat) (b:LA) (c:Nat) (d:LA):=decide (xbe e<(xgW j n f e g h i a b c d).length)
def xfk (j n f:Int) (e g h i a:Nat) (b:LA) (c:Nat) (d:LA):=((xgW j n f e g h i a b c d).getD (xbe e) .top).cells
def xfo (j n e:Int) (f g h i a:Nat) (b:LA) (c:Nat) (d:LA):=(xjP j n e f g h i a b c d).snd
def xem (j n f:Int) (e g h i a:Nat) (b:LA) (c:Nat) (d:LA):=(xgW j n f e g h i a b c d).set (xbe e) (AV.agg (List.take 1 (xfk j n f e g h i a b c d)++[AV.int .i64 (i64.wrap (((xfk j n f e g h i a b c d).getD 1 .top).toInt - xdW n f e a b))]++List.drop 2 (xfk j n f e g h i a b c d)))
def xfW {T:Type} (j n g:Int) (f e h i a:Nat) (b:LA) (c:Nat) (d:LA) (δ:T) (κl:(Int×Nat×Nat×Nat×Nat×Nat×LA×Nat×LA)->T) (κr:(Int×Nat×Nat×Nat×Nat×LA×Nat×LA×Nat)->T):T:=br (decide (g>n)) (br (a==e) (br (a==e&&(decide (0<=i64.wrap ((↑f:Int) - 1))&&decide (i64.wrap ((↑f:Int) - 1)<(↑f:Int)))) (br (a==e) (br (a==e) (br (a==e&&(decide (xbe f<b.length)&&xLw (Sh.int .i64) ((b.getD (xbe f) .top).cells.getD 1 .top))) (br ((xiw j n g f e h i a b c d).isSome) (br (xdj j n g f e h i a b c d) (br (xdj j n g f e h i a b c d) (br (xdj j n g f e h i a b c d&&(xjO j n g f e h i a b c d&&xLw (Sh.int .i64) ((xfk j n g f e h i a b c d).getD 1 .top))) (br (xdj j n g f e h i a b c d) (br (xdj j n g f e h i a b c d) (br (xdj j n g f e h i a b c d&&xjO j n g f e h i a b c d) (br (e==e) (br (e==e) (br (e==e&&(decide (xbe f<(xem j n g f e h i a b c d).length)&&xLw (Sh.int .i64) (((xem j n g f e h i a b c d).getD (xbe f) .top).cells.getD 1 .top))) (br ((((xem j n g f e h i a b c d).getD (xbe f) .top).cells.getD 1 .top).toInt==0) (br (e==xfn j n g f e h i a b c d) (br (e==xfn j n g f e h i a b c d&&(decide (0<=xfl j n g f e h i a b c d)&&decide (xfl j n g f e h i a b c d<=(↑(xfm j n g f e h i a b c d):Int))&&true)) (κl (i64.wrap ((xgf j n g f e h i a b c d).fst - xdW n g f a b),(xfl j n g f e h i a b c d).toNat - 0,xfn j n g f e h i a b c d,(xgd j n g f e h i a b c d).fst,(xge j n g f e h i a b c d).fst,e,List.take ((xfl j n g f e h i a b c d).toNat - 0) (xem j n g f e h i a b c d),(xfo j n g f e h i a b c d).snd,(xfo j n g f e h i a b c d).fst)) δ) δ) (κl (i64.wrap ((xgf j n g f e h i a b c d).fst - xdW n g f a b),xfm j n g f e h i a b c d,xfn j n g f e h i a b c d,(xgd j n g f e h i a b c d).fst,(xge j n g f e h i a b c d).fst,e,List.take (xfm j n g f e h i a b c d) (xem j n g f e h i a b c d),(xfo j n g f e h i a b c d).snd,(xfo j n g f e h i a b c d).fst))) δ) δ) δ) δ) δ) δ) δ) δ) δ) δ) δ) δ) δ) δ) δ) (κr (g,e,f,i,h,b,a,d,c))
def xcv (j n:Int):StT (Int×Nat×Nat×Nat×Nat×Nat×LA×Nat×LA) (Int×Nat×Nat×Nat×Nat×LA×Nat×LA×Nat):=fun (e,f,g,h,i,a,b,c,d)=>xfW j n e f g h i a b c d none inL inR
def xq8:=xsf.l 71 5 [] [(7,xjQ.lp)] Tryz.f89 0 (lk1 xjQ.ok) [0,1,2,3,4] [] [(3,0,0)] (q5 qI qI (xMt 0 0 0 0) (xMt 1 0 0 0) (xMt 2 0 0 0)) (q5 (qB 0 1 3 (q1 qI)) (xMv 0 1 125 false false (q1 (pOslV 3 0))) (xMv 0 1 97 false false (q1 (pOslV 4 0))) (pBoxV 2 127 false true xMk) (pBoxV 2 56 false true xMk)) (fun (j,n,_,_,_,_) ((e,_),((f,g),_),((h,i),_),(a,b),(c,d),_)=>(xcv j n,(e,g,f,i,h,a,b,c,d),fun p=>(.leaf (.exit 0) [] [bF 0 1 3 [AV.int .i64 p.1],⟨0,1,125,[AV.osl 3 p.2.1 0 p.2.2.1],false,false⟩,⟨0,1,97,[AV.osl 4 p.2.2.2.1 0 p.2.2.2.2.1],false,false⟩,bF p.2.2.2.2.2.2.1 2 127 p.2.2.2.2.2.1,bF p.2.2.2.2.2.2.2.2 2 56 p.2.2.2.2.2.2.2.1]))) (0,0,0,0,0,[],0,[],0) fun (j,n,_,_,_,_) _ (e,g,f,i,h,a,b,c,d)=>(((j,n,(),(),(),()),((e,()),((f,g),()),((h,i),()),(a,b),(c,d),())),xfW j n e g f i h a b c d none)
def xhk:Env:=xsf.E.fn 71 5 (lsOf []) (xLV [(7,xjQ.lp),(3,xq8.lp)])
theorem xvp:xLz P0 (xMf.at 5) xhk:=xsf.ok.fn
theorem xtU:LoOk P0 (xMf.at xhk.pin) xhk (Tryz.f89.body.getD .skip):=xkR (ls:=[xLD Tryz.f89 0,xLD Tryz.f89 1]) (by kernel_rfl) (lkC xq8.ok (lkC xjQ.ok lkN))
def xlw (a n h:Int) (b c:Nat) (d e:LA):=Iter (xcv a n) (n,b+1,1,c,0,1,List.take (b+1) (d++[AV.agg [AV.int .i64 a,AV.int .i64 (i64.wrap (n - h))]]),0,e)
def xly (a n h:Int) (b c:Nat) (d e:LA):=Iter (xcv a n) (h,b,0,c,0,0,List.take b d,0,e)
def xlr (a n h:Int) (b c:Nat) (d e:LA):=(xlw a n h b c d e).getD (0,0,0,0,0,[],0,[],0)
def xlv (a n h:Int) (b c:Nat) (d e:LA):=(xly a n h b c d e).getD (0,0,0,0,0,[],0,[],0)
def xml (a n h:Int) (b c:Nat) (d e:LA):=(xlr a n h b c d e).snd
def xlu (a n h:Int) (b c:Nat) (d e:LA):=(xlv a n h b c d e).snd
def xmi (a n h:Int) (b c:Nat) (d e:LA):=(xml a n h b c d e).snd
def xlt (a n h:Int) (b c:Nat) (d e:LA):=(xlu a n h b c d e).snd
def xmh (a n h:Int) (b c:Nat) (d e:LA):=(xmi a n h b c d e).snd
def xls (a n h:Int) (b c:Nat) (d e:LA):=(xlt a n h b c d e).snd
def xmg (a n h:Int) (b c:Nat) (d e:LA):=(xmh a n h b c d e).snd
def xlq (a n h:Int) (b c:Nat) (d e:LA):=(xls a n h b c d e).snd
def xmf (a n h:Int) (b c:Nat) (d e:LA):=(xmg a n h b c d e).snd
def xmm (a n h:Int) (b c:Nat) (d e:LA):=(xlq a n h b c d e).snd
def xme (a n h:Int) (b c:Nat) (d e:LA):=(xmf a n h b c d e).snd
def xmk (a n h:Int) (b c:Nat) (d e:LA):=(xmm a n h b c d e).snd
def xmd (a n h:Int) (b c:Nat) (d e:LA):=(xme a n h b c d e).snd
def xmj (a n h:Int) (b c:Nat) (d e:LA):=(xmk a n h b c d e).snd
def xkQ {T:Type} (a n h:Int) (b d:Nat) (c e:LA) (δ:T) (κ:Int×Nat×Nat×Nat×Nat×LA×Nat×LA×Nat->T):T:=br (decide (n>h)) (br (rmB b c 1 16) (br ((xlw a n h b d c e).isSome) (κ ((xlr a n h b d c e).fst,(xml a n h b d c e).fst,(xmi a n h b d c e).fst,(xmh a n h b d c e).fst,(xmg a n h b d c e).fst,(xmf a n h b d c e).fst,(xme a n h b d c e).fst,(xmd a n h b d c e).fst,(xmd a n h b d c e).snd)) δ) δ) (br ((xly a n h b d c e).isSome) (κ ((xlv a n h b d c e).fst,(xlu a n h b d c e).fst,(xlt a n h b d c e).fst,(xls a n h b d c e).fst,(xlq a n h b d c e).fst,(xmm a n h b d c e).fst,(xmk a n h b d c e).fst,(xmj a n h b d c e).fst,(xmj a n h b d c e).snd)) δ)
def xlp (a n h:Int) (b c:Nat) (d e:LA):=xkQ a n h b c d e none some
theorem xAr (a n h:Int) (b c:Nat) (d e:LA):Enc (fun (p:Int×Nat×Nat×Nat×Nat×LA×Nat×LA×Nat)=>(((AV.tuple [],([⟨0,1,3,[AV.int .i64 p.1],false,true⟩,⟨0,1,125,[AV.osl 3 p.2.1 0 p.2.2.1],false,false⟩,⟨0,1,97,[AV.osl 4 p.2.2.2.1 0 p.2.2.2.2.1],false,false⟩,⟨p.2.2.2.2.2.2.1,2,127,p.2.2.2.2.2.1,false,true⟩,⟨p.2.2.2.2.2.2.2.2,2,56,p.2.2.2.2.2.2.2.1,false,true⟩]:List Box))):(AV×List Box))) (xlp a n h b c d e) (XFM P0 xhk Tryz.f89 (Tryz.f89.body.getD .skip) [AV.int .i64 a,AV.int .i64 n,AV.own (0:Id) 0 0 0,AV.own (1:Id) 0 0 0,AV.own (2:Id) 0 0 0] [{ ver:=0,sz:=1,ty:=(3:TypeId),xs:=[AV.int .i64 h],frz:=false,pm:=true },{ ver:=0,sz:=1,ty:=(125:TypeId),xs:=[AV.osl (3:Id) 0 0 b],frz:=false,pm:=false },{ ver:=0,sz:=1,ty:=(97:TypeId),xs:=[AV.osl (4:Id) 0 0 c],frz:=false,pm:=false },{ ver:=0,sz:=2,ty:=(127:TypeId),xs:=d,frz:=false,pm:=true },{ ver:=0,sz:=2,ty:=(56:TypeId),xs:=e,frz:=false,pm:=true }]):=by
 have h:XFM P0 xhk Tryz.f89 (Tryz.f89.body.getD .skip) [AV.int .i64 a,AV.int .i64 n,AV.own (0:Id) 0 0 0,AV.own (1:Id) 0 0 0,AV.own (2:Id) 0 0 0] [{ ver:=0,sz:=1,ty:=(3:TypeId),xs:=[AV.int .i64 h],frz:=false,pm:=true },{ ver:=0,sz:=1,ty:=(125:TypeId),xs:=[AV.osl (3:Id) 0 0 b],frz:=false,pm:=false },{ ver:=0,sz:=1,ty:=(97:TypeId),xs:=[AV.osl (4:Id) 0 0 c],frz:=false,pm:=false },{ ver:=0,sz:=2,ty:=(127:TypeId),xs:=d,frz:=false,pm:=true },{ ver:=0,sz:=2,ty:=(56:TypeId),xs:=e,frz:=false,pm:=true }]=xkQ a n h b c d e none (fun (p:Int×Nat×Nat×Nat×Nat×LA×Nat×LA×Nat)=>some (((AV.tuple [],([⟨0,1,3,[AV.int .i64 p.1],false,true⟩,⟨0,1,125,[AV.osl 3 p.2.1 0 p.2.2.1],false,false⟩,⟨0,1,97,[AV.osl 4 p.2.2.2.1 0 p.2.2.2.2.1],false,false⟩,⟨p.2.2.2.2.2.2.1,2,127,p.2.2.2.2.2.1,false,true⟩,⟨p.2.2.2.2.2.2.2.2,2,56,p.2.2.2.2.2.2.2.1,false,true⟩]:List Box))):(AV×List Box))):=by kernel_rfl
 rw [h];unfold xlp xkQ;repeat' (first|refine Enc.br ?_ ?_|exact Enc.none|exact Enc.some rfl)
end Go.Sim.M
namespace Go.Sim
open Go.RowKit
theorem GoodM.aged {P:Program} {Inv:IV} {f:FuncId} {args:List AV} {H E:List Box} {p q v k t s y:Nat} {xs:List AV}
  (h:GoodM P Inv f args H (.tuple []) E) (hz:∀ bx,H[q]?=some bx->bx.ver=0)
  (ep:E[p]?=some ⟨0,1,t,[.osl (.b q) v 0 k],false,false⟩) (eq:E[q]?=some ⟨v,s,y,xs,false,true⟩) (pt:isC t=false) (py:isC y=false)
  (ho:∀ n bx,E[n]?=some bx->isC bx.ty=false/\(n=p\/n=q\/bx.pm=true\/∃ n' v' k',n'≠q/\bx.xs=[.osl (.b n') v' 0 k'])) :
  GoodM P Inv f args H (.tuple []) ((E.set p ⟨0,1,t,[.osl (.b q) 1 0 k],false,false⟩).set q ⟨1,s,y,xs,false,true⟩):=by
 have pq:p≠q:=fun e=>by
  subst e;rw [ep] at eq;simp at eq
 refine ⟨h.1,fun w0 w A M vs hI hB hR Z=>(h.2 w0 w A M vs hI hB hR Z).mono ?_⟩
 rintro e w' ⟨u,A',M',rfl,h1,h2,h3,h4,h5⟩;let M'':Id->Option MB:=fun id=>if id=.b q then (M' id).map fun m=>⟨m.b,1,m.sz,m.cap,m.ty⟩ else M' id
 have eo:∀ id,id≠.b q->M'' id=M' id:=fun id g1=>if_neg g1
 have e4:∀ m,M' (.b q)=some m->M'' (.b q)=some ⟨m.b,1,m.sz,m.cap,m.ty⟩:=fun m hm=>(if_pos rfl).trans (by rw [hm];rfl)
 have O:∀ id m1,M'' id=some m1->∃ m0,M' id=some m0/\m1.b=m0.b/\m1.cap=m0.cap:=fun id m1 J=>by
  by_cases g3:id=.b q
  . subst g3;cases hm:M' (.b q) with
    | none=>simp [M'',hm] at J
    | some m=>rw [e4 m hm] at J;simp only [z6] at J;subst J;exact ⟨m,rfl,rfl,rfl⟩
  . exact ⟨m1,eo id g3▸J,rfl,rfl⟩
 have Q:∀ n bx m,E[n]?=some bx->M' (.b n)=some m->BoxAt w' A' M' w0.heap.size (.b n) m bx:=fun n bx m hn hm=>by
  obtain ⟨bx',g1,g2⟩:=h4.box _ m hm;rw [xbY,hn] at g1;cases g1;exact g2
 have hv:∀ m,M' (.b q)=some m->v=m.ver:=fun m hm=>(Q q _ m eq hm).ver
 have hx:∀ c n' v' k',n'≠q->Rel w' A' M' c (.osl (.b n') v' 0 k')->Rel w' A' M'' c (.osl (.b n') v' 0 k'):=fun c n' v' k' hn hr=>by
  obtain ⟨m0,g1,g2,g3,g4⟩:=Rel.osl_inv hr;exact .osl c _ v' 0 k' m0 ((eo _ fun e=>hn (by cases e;rfl)).trans g1) g2 g3 g4
 have hy:∀ c,Rel w' A' M' c (.osl (.b q) v 0 k)->Rel w' A' M'' c (.osl (.b q) 1 0 k):=fun c hr=>by
  obtain ⟨m0,g1,g2,g3,g4⟩:=Rel.osl_inv hr;exact .osl c _ 1 0 k _ (e4 m0 g1) (zd _) g3 fun _=>g4 (hv m0 g1)
 have hb:∀ id (bx bx':Box) (m m':MB),isC bx.ty=false->bx'=⟨m'.ver,bx.sz,bx.ty,bx'.xs,bx.frz,bx.pm⟩->m'=⟨m.b,m'.ver,m.sz,m.cap,m.ty⟩->bx'.xs.length=bx.xs.length->(∀ x,x∈bx'.xs->x.okElem m.sz=true) ->
   (∀ c i j,Rel w' A' (MP M' bx.pm) c ((bx.xs.getD i .top).cells.getD j .top)->Rel w' A' (MP M'' bx.pm) c ((bx'.xs.getD i .top).cells.getD j .top))->BoxAt w' A' M' w0.heap.size id m bx->BoxAt w' A' M'' w0.heap.size id m' bx':=fun id bx bx' m m' U aa Y hl ac hc g=>by
  rw [aa,Y];have V:xLB m.ty=false:=g.nomap (xbk U);refine ⟨rfl,g.sz,g.ty,g.capm,hl▸g.fits,ac,g.low,g.lt,fun h0=>?_,g.guard⟩
  obtain ⟨c,c1,c2,c3⟩:=g.cells h0;refine ⟨c,.of V (c1.plain V),c2,fun i j hi hj=>?_⟩
  have:=c3 i j (hl▸hi) hj;rw [xaX U,xbA U] at this;rw [xaX U,xbA (bx:=⟨m'.ver,bx.sz,bx.ty,bx'.xs,bx.frz,bx.pm⟩) U];exact hc _ i j this
 have ht:∀ a v1 v2 d,(∀ c,Rel w' A' M' c (.osl a v1 0 d)->Rel w' A' M'' c (.osl a v2 0 d))->∀ c i j,Rel w' A' M' c ((([.osl a v1 0 d]:List AV).getD i .top).cells.getD j .top)->Rel w' A' M'' c ((([.osl a v2 0 d]:List AV).getD i .top).cells.getD j .top):=fun a v1 v2 d hh c i j hr=>by
  match i,j with
  | 0,0=>exact hh c hr
  | 0,j+1=>exact .top _
  | i+1,0=>exact .top _
  | i+1,j+1=>exact .top _
 have hg:∀ n bx,E[n]?=some bx->∃ bx',((E.set p ⟨0,1,t,[.osl (.b q) 1 0 k],false,false⟩).set q ⟨1,s,y,xs,false,true⟩)[n]?=some bx'/\isC bx'.ty=false/\(∀ m m1,M' (.b n)=some m->M'' (.b n)=some m1->BoxAt w' A' M'' w0.heap.size (.b n) m1 bx'):=fun n bx hn=>by
  have hn':=xdi hn;obtain ⟨hC,hc⟩:=ho n bx hn;by_cases g1:n=q
  . subst g1;rw [hn] at eq;cases eq;refine ⟨_,zL (by simpa using hn'),py,fun m m1 e1 e2=>?_⟩
    rw [e4 m e1] at e2;cases e2;have g:=Q n _ m hn e1;exact hb _ ⟨v,s,y,xs,false,true⟩ ⟨1,s,y,xs,false,true⟩ m _ py rfl rfl rfl g.ok (fun c i j hr=>hr) g
  . have ge:∀ m m1,M' (.b n)=some m->M'' (.b n)=some m1->m1=m:=fun m m1 e1 e2=>by
     rw [eo _ fun e=>g1 (by cases e;rfl),e1] at e2;cases e2;rfl
    by_cases g2:n=p
    . subst g2;rw [hn] at ep;cases ep;refine ⟨_,(zX (Ne.symm g1)).trans (zL hn'),pt,fun m m1 e1 e2=>?_⟩
      cases ge m m1 e1 e2;have g:=Q n _ m hn e1;have hv:0=m.ver:=g.ver;have hz:m.sz=1:=g.sz.symm;exact hb _ ⟨0,1,t,[.osl (.b q) v 0 k],false,false⟩ ⟨0,1,t,[.osl (.b q) 1 0 k],false,false⟩ m m pt (by rw [<-hv]) rfl rfl (fun x hx=>by simp only [zv] at hx;subst hx;rw [hz];rfl) (ht _ _ _ _ hy) g
    . refine ⟨bx,(zX (Ne.symm g1)).trans ((zX (Ne.symm g2)).trans hn),hC,fun m m1 e1 e2=>?_⟩
      cases ge m m1 e1 e2;have g:=Q n _ m hn e1;refine hb _ bx bx m m hC (by rw [<-g.ver]) rfl rfl g.ok ?_ g
      rcases hc with hc|hc|hc|⟨n',v',k',hc,hd⟩
      . exact absurd hc g2
      . exact absurd hc g1
      . rw [hc];exact fun c i j hr=>hr
      . cases ae:bx.pm with
        | true=>exact fun c i j hr=>hr
        | false=>rw [hd];exact ht _ _ _ _ fun c=>hx c n' v' k' hc
 have hR':HR w' A' M'' w0.heap.size ((E.set p ⟨0,1,t,[.osl (.b q) 1 0 k],false,false⟩).set q ⟨1,s,y,xs,false,true⟩):=by
  refine ⟨fun id m1 J=>?_,fun id id' m1 m2 k1 k2 c1 c2 he=>?_,h4.lt⟩
  . obtain ⟨m0,g1,_⟩:=O id m1 J;obtain ⟨bx,q1,q2⟩:=h4.box _ m0 g1;cases id with
    | r n i j =>
     rw [eo _ (fun e=>by cases e),g1] at J
     cases J;obtain ⟨c0,r1,_⟩:=xnG q1;obtain ⟨bx',r2,r3,_⟩:=hg n c0 r1;rw [xey r1 (ho n c0 r1).1] at q1;cases q1;exact ⟨_,xey r2 r3,hb _ tombB tombB m1 m1 rfl (by rw [<-q2.ver]) rfl rfl q2.ok (fun c i j hr=>hr) q2⟩
    | b n =>
     obtain ⟨bx',r2,_,r3⟩:=hg n bx q1;exact ⟨bx',r2,r3 _ _ g1 J⟩
  . obtain ⟨n1,a1,a2,a3⟩:=O id m1 k1;obtain ⟨n2,b1,b2,b3⟩:=O id' m2 k2;exact h4.inj id id' n1 n2 a1 b1 (a3▸c1) (b3▸c2) (by rw [<-a2,<-b2,he])
 refine ⟨u,A',M'',rfl,h1,h2,⟨h3.size,h3.keep,h3.less,h3.more,fun id m ad hm=>?_,fun id m1 J h0=>?_⟩,hR',?_⟩
 . obtain ⟨m',g1,g2⟩:=h3.ids id m ad hm;by_cases q4:id=.b q
   . subst q4;obtain ⟨bx,r1,r2⟩:=hR.box _ m hm;exact ⟨_,e4 m' g1,.inr (by rw [<-r2.ver,hz bx r1];exact Nat.zero_lt_one)⟩
   . exact ⟨m',(eo id q4).trans g1,g2⟩
 . obtain ⟨m0,g1,g2,g3⟩:=O id m1 J;rw [g2];exact h3.src id m0 g1 (g3▸h0)
 . obtain ⟨ab,rfl,q1,_⟩:=h5.tuple_inv;exact .tuple ab [] q1 (by simp)
namespace M
open Go.Proofs
noncomputable def set2 (at0 n h:Int) (ns no:Nat) (sx ox:List AV):Option (Int×Nat×Nat×List AV×List AV):=(xlp at0 n h ns no sx ox).bind fun p =>
 br (Nat.beq p.2.1 p.2.2.2.2.2.2.1&&Nat.beq p.2.2.2.1 p.2.2.2.2.2.2.2.2) (some (p.1,p.2.2.1,p.2.2.2.2.1,p.2.2.2.2.2.1,p.2.2.2.2.2.2.2.1)) none
noncomputable def xFE:List AV->List Box->Option (Bool×AV×List Box):=omOf (xMh (sEq (pInt IntKind.i64)) (xMh (sEq (pInt IntKind.i64)) (xMh (sEq (xMt 0 0 0 0)) (xMh (sEq (xMt 1 0 0 0)) (xMh (sEq (xMt 2 0 0 0)) xMj)))))
 (xMg (xMv 0 1 3 false true (xMg (pInt IntKind.i64) xMi)) (xMg (xMv 0 1 125 false false (xMg (xMs 3 0 0) xMi)) (xMg (xMv 0 1 97 false false (xMg (xMs 4 0 0) xMi)) (xMg (xMv 0 2 127 false true xMk) (xMg (xMv 0 2 56 false true xMk) xMi)))))
 fun (at0,(n,(_,(_,(_,_))))) ((h,_),((ns,_),((no,_),(sx,(ox,_)))))=>((set2 at0 n h ns no sx ox).isSome,(.tuple [],[⟨0,1,3,[.int .i64 ((set2 at0 n h ns no sx ox).getD (0,0,0,[],[])).1],false,true⟩,⟨0,1,125,[.osl (.b 3) 1 0 ((set2 at0 n h ns no sx ox).getD (0,0,0,[],[])).2.1],false,false⟩,⟨0,1,97,[.osl (.b 4) 1 0 ((set2 at0 n h ns no sx ox).getD (0,0,0,[],[])).2.2.1],false,false⟩,⟨1,2,127,((set2 at0 n h ns no sx ox).getD (0,0,0,[],[])).2.2.2.1,false,true⟩,⟨1,2,56,((set2 at0 n h ns no sx ox).getD (0,0,0,[],[])).2.2.2.2,false,true⟩]))
theorem xJr:OmOk P0 xMf 89 xFE:=xnc fun vv bb rr Y hh=>by
 obtain ⟨at0,⟨n,⟨_,⟨_,⟨_,_⟩⟩⟩⟩⟩:=vv;obtain ⟨⟨h,_⟩,⟨⟨ns,_⟩,⟨⟨no,_⟩,⟨sx,⟨ox,_⟩⟩⟩⟩⟩:=bb;obtain ⟨J,O⟩:=Prod.mk.inj hh;cases hs:xlp at0 n h ns no sx ox with
 | none=>rw [show set2 at0 n h ns no sx ox=none by unfold set2;rw [hs];rfl] at J;simp at J
 | some p =>
  have Q:set2 at0 n h ns no sx ox=br (Nat.beq p.2.1 p.2.2.2.2.2.2.1&&Nat.beq p.2.2.2.1 p.2.2.2.2.2.2.2.2) (some (p.1,p.2.2.1,p.2.2.2.2.1,p.2.2.2.2.2.1,p.2.2.2.2.2.2.2.1)) none:=by unfold set2;rw [hs];rfl
  cases ht:Nat.beq p.2.1 p.2.2.2.2.2.2.1&&Nat.beq p.2.2.2.1 p.2.2.2.2.2.2.2.2 with
  | false=>rw [Q,ht] at J;simp [br] at J
  | true =>
   rw [ht] at Q;have V:set2 at0 n h ns no sx ox=some (p.1,p.2.2.1,p.2.2.2.2.1,p.2.2.2.2.2.1,p.2.2.2.2.2.2.2.1):=Q;rw [V] at O;simp only [zh] at O;simp only [zf] at ht;have e1:=zg ht.1;have e2:=zg ht.2;have hx:=xAr at0 n h ns no sx ox p hs;have hg:GoodM P0 xMf 89 _ _ _ _:=xhy (p:=xhk.pin) (xjw xLI (xLJ P0 _) rfl xvp rfl Tryz.func89 rfl (by kernel_rfl) xtU hx)
   rw [<-e1,<-e2] at hg;have U:=GoodM.aged (p:=1) (q:=3) hg (fun bx hb=>by cases hb;rfl) rfl rfl rfl rfl (fun n bx hn=>by
    match n with
    | 0=>cases hn;exact ⟨rfl,.inr (.inr (.inl rfl))⟩
    | 1=>cases hn;exact ⟨rfl,.inl rfl⟩
    | 2=>cases hn;exact ⟨rfl,.inr (.inr (.inr ⟨_,_,_,by decide,rfl⟩))⟩
    | 3=>cases hn;exact ⟨rfl,.inr (.inl rfl)⟩
    | 4=>cases hn;exact ⟨rfl,.inr (.inr (.inl rfl))⟩
    | n+5=>simp at hn)
   have U:=GoodM.aged (p:=2) (q:=4) U (fun bx hb=>by cases hb;rfl) rfl rfl rfl rfl (fun n bx hn=>by
    match n with
    | 0=>cases hn;exact ⟨rfl,.inr (.inr (.inl rfl))⟩
    | 1=>cases hn;exact ⟨rfl,.inr (.inr (.inr ⟨_,_,_,by decide,rfl⟩))⟩
    | 2=>cases hn;exact ⟨rfl,.inl rfl⟩
    | 3=>cases hn;exact ⟨rfl,.inr (.inr (.inl rfl))⟩
    | 4=>cases hn;exact ⟨rfl,.inr (.inl rfl)⟩
    | n+5=>simp at hn)
   obtain ⟨rfl,rfl⟩:=Prod.mk.inj O;exact U
noncomputable def ESet:Env:=xsf.E.withM 89 xFE
theorem xHn:xLz P0 xMf ESet:=xsf.ok.withM xJr
noncomputable def xB1:EO:=EO.mk ESet xHn
end M
end Go.Sim
namespace Go.Sim.M
open Go.IntKind (i64 u64 u8)
open Go.RowKit Go.Proofs
def xli (a:LA) (h b:Int) (f c:Nat) (g:Int) (d e:LA):Int:=if 0>(gC a b 1).toInt then 0 else (gC a b 1).toInt
def xlh (f:LA) (h g:Int) (d a:Nat) (e:Int) (b c:LA):=set2 (gC f g 0).toInt (if 1048576<xli f h g d a e b c then 1048576 else xli f h g d a e b c) e a d c b
def xlg (f:LA) (g h:Int) (d a:Nat) (e:Int) (b c:LA):=(xlh f g h d a e b c).getD (0,0,0,[],[])
def xlf (f:LA) (g h:Int) (d a:Nat) (e:Int) (b c:LA):=(xlg f g h d a e b c).snd
def xld (f:LA) (g h:Int) (d a:Nat) (e:Int) (b c:LA):=(xlf f g h d a e b c).fst
def xle (f:LA) (g h:Int) (d a:Nat) (e:Int) (b c:LA):=(xlf f g h d a e b c).snd
def xlc (f:LA) (g h:Int) (d a:Nat) (e:Int) (b c:LA):=(xle f g h d a e b c).snd
def xiO {T:Type} (g:LA) (h e:Int) (d a:Nat) (f:Int) (b c:LA) (δ:T) (κl:(Int×Nat×Nat×Int×LA×LA)->T) (κr:(Nat×Int×Nat×LA×LA)->T):T:=br (decide (e<h)) (br (ixI g e) (br (ixT g e 2 [Sh.int .i64,Sh.int .i64] 0) (br ((xlh g h e d a f b c).isSome) (κl (i64.wrap (e+1),(xle g h e d a f b c).fst,xld g h e d a f b c,(xlg g h e d a f b c).fst,(xlc g h e d a f b c).snd,List.take (xld g h e d a f b c) (xlc g h e d a f b c).fst)) δ) δ) δ) (κr (d,f,a,b,c))
def xdV (f:LA) (g:Int):StT (Int×Nat×Nat×Int×LA×LA) (Nat×Int×Nat×LA×LA):=fun (h,d,a,e,b,c)=>xiO f g h d a e b c none inL inR
def xpx:=xB1.l 30 0 [] [] Tryz.f70 0 lk0 [3,4,6,10,11,12] [3,6] [(3,2,56),(4,2,127),(4,0,0)] (q6 (xMt 0 0 0 0) (xMt 1 0 0 0) (xLW 89 (q3 (xMt 2 0 0 0) (xMt 1 0 0 0) (xMt 0 0 0 0))) (qL 2) qI qI) (q5 (xMv 0 1 97 false false (q1 (xMs 3 0 0))) (xMv 0 1 125 false false (q1 (xMs 4 0 0))) (qB 0 1 3 (q1 qI)) (qB 0 2 56 xMk) (qB 0 2 127 xMk)) (fun (_,_,(_,_,_,_),f,g,h,_) ((d,_),(a,_),(e,_),b,c,_)=>(xdV f g,(h,d,a,e,b,c),fun p=>(.leaf (.exit 0) [AV.own 0 0 0 0,AV.func 89 [AV.own 1 0 0 0,AV.own 2 0 0 0,AV.own 0 0 0 0]] [⟨0,1,97,[AV.osl 3 0 0 p.1],false,false⟩,bF 0 1 3 [AV.int .i64 p.2.1],⟨0,1,125,[AV.osl 4 0 0 p.2.2.1],false,false⟩,bF 0 2 56 p.2.2.2.1,bF 0 2 127 p.2.2.2.2]))) (0,0,0,[],[]) fun (_,_,(_,_,_,_),f,g,_,_) _ (h,d,a,e,b,c)=>((((),(),((),(),(),()),f,g,h,()),((d,()),(a,()),(e,()),b,c,())),xiO f g h d a e b c none)
def xoA (l:LA):=Iter (xdV l (↑l.length:Int)) (0,0,0,0,[],[])
def xoz (l:LA):=(xoA l).getD (0,0,0,[],[])
def xoy (l:LA):=(xoz l).snd
def xow (l:LA):=(xoy l).snd
def xov (l:LA):=(xow l).snd
def xou (l:LA):=set2 1099511627776 0 (xoy l).fst (xow l).fst (xoz l).fst (xov l).snd (xov l).fst
def xot (l:LA):=((xou l).getD (0,0,0,[],[])).snd.snd
def xh2 (l:LA):=(xot l).fst
def xh3 (l:LA):=(xot l).snd.snd
def xpm {T:Type} (l:LA) (δ:T) (κ:LA->T):T:=br ((xoA l).isSome) (br ((xou l).isSome) (br ((xh2 l).beq (xh3 l).length&&(decide (xh2 l<4611686018427387904)&&(xh3 l).all isP)) (br (decide (0+xh2 l<=(srtP (xh3 l)).length)&&true) (κ (List.take (xh2 l) (List.drop 0 (srtP (xh3 l))))) δ) δ) δ) δ
def xos (l:LA):=xpm l none some
def xIK:EO:=xB1.f Tryz.func70 30 0 [] [(6,xpx.lp)] (lk1 xpx.ok) (u1 (uL 2)) (fun (l,_) _=>xpm l) (fun _ p=>AV.list 2 p) []
def xnq {T:Type} (a:LA) (δ:T) (κ:LA->T):T:=br ((↑a.length:Int)==1) (κ (a)) (br ((xfi a).isSome) (br ((xos ((xfi a).getD [])).isSome) (κ ((xos ((xfi a).getD [])).getD [])) δ) δ)
def xga (a:LA):=xnq a none some
def xzK:EO:=xIK.f Tryz.func69 10 0 [] [] lk0 (u1 (uL 2)) (fun (a,_) _=>xnq a) (fun _ p=>AV.list 2 p) []
def xfP {T:Type} (h:LA) (i j:Int) (e:LA) (f:Int) (d:Nat) (c:Int) (a b g:LA) (δ:T) (κl:(Nat×Int×LA×LA×LA)->T) (κr:(Nat×LA)->T):T:=br (decide (c<f)) (br (ixI e c) (br (ixT e c 2 [Sh.int .i64,Sh.int .i64] 0) (br (decide (b.length*32<=140737488355328)&&decide (b.length<=4611686018427387904)) (br (decide (0+b.length<=b.length)&&true&&true&&true&&true) (br (rmB d a 1 40) (κl (d+1,i64.wrap (c+1),a++[AV.agg [AV.list 3 (List.take b.length (List.drop 0 b)),AV.int .i64 (gC e c 0).toInt,AV.int .i64 (gC e c 1).toInt]],b,g)) δ) δ) δ) δ) δ) (κr (d,a))
def xcl (c:LA) (d e:Int) (f:LA) (g:Int):StT (Nat×Int×LA×LA×LA) (Nat×LA):=fun (b,h,a,i,j)=>xfP c d e f g b h a i j none inL inR
def xfC:=xzK.l 38 0 [60] [] Tryz.f68 1 lk0 [1,5,7,11,12,13,20,21,22] [1,5,11,12,13] [(5,3,60)] (q9 (xLW 69 xMi) (xMs 0 0 0) (xMt 1 0 0 0) (qL 2) qI qI (qL 2) qI qI) (q2 (qB 0 3 60 xMk) (qB 0 2 124 (q1 (xMu (q2 (qL 3) (qL 2)))))) (fun (_,b,_,c,d,e,f,g,h,_) (a,((i,j,_),_),_)=>(xcl c d e f g,(b,h,a,i,j),fun p=>(.leaf (.exit 2) [AV.func 69 [],AV.osl 0 0 0 p.1,AV.list 2 c,AV.int .i64 d,AV.int .i64 e] [bF 0 3 60 p.2]))) (0,[]) fun (_,_,_,c,d,e,f,g,_,_) _ (b,h,a,i,j)=>((((),b,(),c,d,e,f,g,h,()),(a,((i,j,()),()),())),xfP c d e f g b h a i j none)
def xia (a:LA) (e:Int) (d:Nat) (b:Int) (c:LA):=Iter (xcl a e b ((xga (gC a b 1).toList).getD []) (↑((xga (gC a b 1).toList).getD []).length:Int)) (d,0,c,(gC a b 0).toList,(gC a b 1).toList)
def xh9 (c:LA) (d:Int) (b:Nat) (e:Int) (a:LA):=(xia c d b e a).getD (0,[])
def xfO {T:Type} (d:LA) (e:Int) (c:Nat) (b:Int) (a:LA) (δ:T) (κl:(Nat×Int×LA)->T) (κr:(Nat×LA)->T):T:=br (decide (b<e)) (br (ixI d b) (br (ixT d b 2 [Sh.list 3,Sh.list 2] 0) (br ((xga (gC d b 1).toList).isSome) (br ((xia d e c b a).isSome) (κl ((xh9 d e c b a).fst,i64.wrap (b+1),(xh9 d e c b a).snd)) δ) δ) δ) δ) (κr (c,a))
def xde (c:LA) (d:Int):StT (Nat×Int×LA) (Nat×LA):=fun (b,e,a)=>xfO c d b e a none inL inR
def xlx:=xzK.l 38 0 [60] [(6,xfC.lp)] Tryz.f68 0 (lk1 xfC.ok) [1,5,11,12,13] [5] [(5,3,60)] (q5 (xLW 69 xMi) (xMs 0 0 0) (qL 2) qI qI) (q1 (qB 0 3 60 xMk)) (fun (_,b,c,d,e,_) (a,_)=>(xde c d,(b,e,a),fun p=>(.leaf (.exit 0) [AV.osl 0 0 0 p.1] [bF 0 3 60 p.2]))) (0,[]) fun (_,_,c,d,_,_) _ (b,e,a)=>((((),b,c,d,e,()),(a,())),xfO c d b e a none)
def xkc (l:LA):=Iter (xde ((xjZ l).getD []) (↑((xjZ l).getD []).length:Int)) (0,0,[])
def xkb (l:LA):=(xkc l).getD (0,[])
def xj9 (l:LA):=(xkb l).fst
def xka (l:LA):=(xkb l).snd
def xkB {T:Type} (l:LA) (δ:T) (κ:LA->T):T:=br ((xjZ l).isSome) (br ((xkc l).isSome) (br (decide (0+xj9 l<=(xka l).length)&&true) (κ (List.take (xj9 l) (List.drop 0 (xka l)))) δ) δ) δ
def xmw (l:LA):=xkB l none some
def xIL:EO:=xzK.f Tryz.func68 38 0 [60] [(6,xfC.lp),(3,xlx.lp)] (lks (lkC xlx.ok (lkC xfC.ok lkN))) (u2 (uL 3) (sEq (xLW (69:FuncId) xMi))) (fun (l,_,_) _=>xkB l) (fun _ p=>AV.list 3 p) []
def xoO {T:Type} (l:LA) (δ:T) (κ:LA->T):T:=br ((xmw l).isSome) (κ ((xmw l).getD [])) δ
def xbm (l:LA):=xoO l none some
def xIM:EO:=xIL.f Tryz.func38 5 0 [] [] lk0 (u1 (uL 3)) (fun (l,_) _=>xoO l) (fun _ p=>AV.list 3 p) []
def xhO (b a:Bool):Int:=(br (b) (((-1))) (br (a) ((1)) ((0))))
def xAQ {T:Type} (b a:Bool) (δ:T) (κ:Int->T):T:=br (b) (κ ((-1))) (br (a) (κ (1)) (κ (0)))
def xIN:EO:=xIM.fT Tryz.func81 7 0 [] [] lk0 (fun (b,a,_)=>xAQ b a none) (u2 (sEq pBool) (sEq pBool)) (fun (b,a,_)=>xhO b a) (fun _ p=>(AV.int .i64 p))
def xhp (a b:Int) (c:List UInt8) (d e:Int) (f:List UInt8):Int:=(br (a != d) ((xhO (decide (a<d)) (decide (a>d)))) (br (b != e) ((xhO (decide (b<e)) (decide (b>e)))) ((xhO (Op.bytesLess c f) !(Op.bytesLess c f || c==f)))))
def xwz {T:Type} (a b:Int) (c:List UInt8) (d e:Int) (f:List UInt8) (δ:T) (κ:Int->T):T:=br (a != d) (κ (xhO (decide (a<d)) (decide (a>d)))) (br (b != e) (κ (xhO (decide (b<e)) (decide (b>e)))) (κ (xhO (Op.bytesLess c f) !(Op.bytesLess c f || c==f))))
def xD6:EO:=xIN.fT Tryz.func61 48 0 [] [] lk0 (fun ((a,b,c,_),(d,e,f,_),_)=>xwz a b c d e f none) (u2 (xMy (u3 uI uI (sEq pStr))) (xMy (u3 uI uI (sEq pStr)))) (fun ((a,b,c,_),(d,e,f,_),_)=>xhp a b c d e f) (fun _ p=>(AV.int .i64 p))
def xee (a b:LA) (i:Int):=xhp (gC a i 0).toInt (gC a i 1).toInt (gC a i 2).toStr (gC b i 0).toInt (gC b i 1).toInt (gC b i 2).toStr
def xeB {T:Type} (a b:LA) (i:Int) (δ:T) (κl:(Int)->T) (κr:(Bool×(Int)×(Unit))->T):T:=br (decide (i<a.length)) (br (decide (i<b.length)) (br (ixI a i) (br (ixT a i 3 [Sh.int .i64,Sh.int .i64,Sh.str] 0) (br (ixI b i) (br (ixT b i 3 [Sh.int .i64,Sh.int .i64,Sh.str] 0) (br (xee a b i != 0) (κr (true,(xee a b i),())) (κl (i64.wrap (i+1)))) δ) δ) δ) δ) (κr (false,0,()))) (κr (false,0,()))
def xbp (a b:LA):StT (Int) (Bool×(Int)×(Unit)):=fun (i)=>xeB a b i none inL inR
def xoM:=xD6.l 41 0 [] [] Tryz.f29 0 lk0 [0,1,5] [0,1,4] [] (q3 (qL 3) (qL 3) qI) xMi (fun (a,b,i,_) _=>(xbp a b,(i),fun p=>(.node p.1 (.leaf .ret [AV.list 3 a,AV.list 3 b,AV.int .i64 p.2.1] []) (.leaf (.exit 0) [AV.list 3 a,AV.list 3 b,.top] [])))) (false,0,()) fun (a,b,_,_) _ (i)=>(((a,b,i,()),()),xeB a b i none)
def xnZ {T:Type} (a b:LA) (δ:T) (κ:Int->T):T:=br ((Iter (xbp a b) 0).isSome) (br (((Iter (xbp a b) 0).getD (false,0,())).fst) (κ (((Iter (xbp a b) 0).getD (false,0,())).snd.fst)) (br (decide ((↑a.length:Int)<(↑b.length:Int))) (κ ((-1))) (br (decide ((↑a.length:Int)>(↑b.length:Int))) (κ (1)) (κ (0))))) δ
def xa8 (a b:LA):=xnZ a b none some
def xIO:EO:=xD6.f Tryz.func29 41 0 [] [(2,xoM.lp)] (lk1 xoM.ok) (u2 (uL 3) (uL 3)) (fun (a,b,_) _=>xnZ a b) (fun _ p=>AV.int .i64 p) 0
def xqj {T:Type} (a b:LA) (δ:T) (κ:Bool->T):T:=br ((xa8 a b).isSome) (κ ((xa8 a b).getD 0==0)) δ
def xrY (a b:LA):=xqj a b none some
def xD7:EO:=xIO.f Tryz.func120 9 0 [] [] lk0 (u2 (uL 3) (uL 3)) (fun (a,b,_) _=>xqj a b) (fun _ p=>AV.bool p) false
def xgv {T:Type} (a b:LA) (i:Int) (δ:T) (κl:(Int)->T) (κr:(Bool×(Bool)×(Unit))->T):T:=br (decide (i<a.length)) (br (ixI a i) (br (ixT a i 3 [Sh.int .i64,Sh.int .i64] 1) (br (ixI b i) (br (ixT b i 3 [Sh.int .i64,Sh.int .i64] 1) (br (!((gC a i 1).toInt==(gC b i 1).toInt&&((gC a i 2).toInt==(gC b i 2).toInt&&true))) (κr (true,(false),())) (br (ixI a i) (br (ixS a i (Sh.list 3) 0) (br (ixI b i) (br (ixS b i (Sh.list 3) 0) (br ((xa8 (gC a i 0).toList (gC b i 0).toList).isSome) (br ((xa8 (gC a i 0).toList (gC b i 0).toList).getD 0 != 0) (κr (true,(false),())) (κl (i64.wrap (i+1)))) δ) δ) δ) δ) δ)) δ) δ) δ) δ) (κr (false,false,()))
def xbW (a b:LA):StT (Int) (Bool×(Bool)×(Unit)):=fun (i)=>xgv a b i none inL inR
def xng:=xD7.l 42 0 [] [] Tryz.f11 0 lk0 [0,1,5] [4] [] (q3 (qL 3) (qL 3) qI) xMi (fun (a,b,i,_) _=>(xbW a b,(i),fun p=>(.node p.1 (.leaf .ret [AV.bool p.2.1] []) (.leaf (.exit 0) [.top] [])))) (false,false,()) fun (a,b,_,_) _ (i)=>(((a,b,i,()),()),xgv a b i none)
def xlW {T:Type} (a b:LA) (δ:T) (κ:Bool->T):T:=br ((↑a.length:Int) != (↑b.length:Int)) (κ (false)) (br ((Iter (xbW a b) 0).isSome) (br (((Iter (xbW a b) 0).getD (false,false,())).fst) (κ (((Iter (xbW a b) 0).getD (false,false,())).snd.fst)) (κ (true))) δ)
def xcx (a b:LA):=xlW a b none some
def xD8:EO:=xD7.f Tryz.func11 42 0 [] [(4,xng.lp)] (lk1 xng.ok) (u2 (uL 3) (uL 3)) (fun (a,b,_) _=>xlW a b) (fun _ p=>AV.bool p) false
def xeE (a b:LA) (i k:Int):=decide ((xa8 (gC b k 0).toList (gC a i 0).toList).getD 0<0)
def xeF (a:LA) (i:Int):=decide (i.toNat<a.length)&&((a.getD i.toNat .top).cells.length==3&&xLE [Sh.list 3,Sh.int .i64,Sh.int .i64] (a.getD i.toNat .top).cells 0)
def xeG (b:LA) (k:Int):=decide (k.toNat<b.length)&&((b.getD k.toNat .top).cells.length==3&&xLE [Sh.list 3,Sh.int .i64,Sh.int .i64] (b.getD k.toNat .top).cells 0)
def xds (b:LA) (k:Int):=ixI b k
def xdt (a:LA) (i:Int):=ixI a i
def xcX {T:Type} (b:LA) (c:Nat) (i k:Int) (a:LA) (δ:T) (κl:(Nat×Int×Int×LA)->T):T:=br (xds b k) (br (xeG b k) (br (rmB c a 1 40) (κl (c+1,i,i64.wrap (k+1),a++[AV.agg [AV.list 3 (gC b k 0).toList,AV.int .i64 (gC b k 1).toInt,AV.int .i64 (gC b k 2).toInt]])) δ) δ) δ
def xcY {T:Type} (a:LA) (c:Nat) (i k:Int) (b:LA) (δ:T) (κl:(Nat×Int×Int×LA)->T):T:=br (xdt a i) (br (xeF a i) (br (rmB c b 1 40) (κl (c+1,i64.wrap (i+1),k,b++[AV.agg [AV.list 3 (gC a i 0).toList,AV.int .i64 (gC a i 1).toInt,AV.int .i64 (gC a i 2).toInt]])) δ) δ) δ
def xcW {T:Type} (a b:LA) (d:Nat) (i k:Int) (c:LA) (δ:T) (κl:(Nat×Int×Int×LA)->T):T:=br (i==(↑a.length:Int)) (xcX b d i k c δ κl) (br (decide (k<b.length)) (br (xds b k) (br (ixS b k (Sh.list 3) 0) (br (xdt a i) (br (ixS a i (Sh.list 3) 0) (br ((xa8 (gC b k 0).toList (gC a i 0).toList).isSome) (br (xeE a b i k) (xcX b d i k c δ κl) (xcY a d i k c δ κl)) δ) δ) δ) δ) δ) (xcY a d i k c δ κl))
def xdY {T:Type} (a b:LA) (d:Nat) (i k:Int) (c:LA) (δ:T) (κl:(Nat×Int×Int×LA)->T) (κr:(Nat×LA)->T):T:=br (decide (i<a.length)) (xcW a b d i k c δ κl) (br (decide (k<b.length)) (xcW a b d i k c δ κl) (κr (d,c)))
def xbD (a b:LA):StT (Nat×Int×Int×LA) (Nat×LA):=fun (d,i,k,c)=>xdY a b d i k c none inL inR
def xpV:=xD8.l 61 0 [] [] Tryz.f97 0 lk0 [0,1,5,6,7] [5] [(5,3,60)] (q5 (qL 3) (qL 3) (xMs 0 0 0) qI qI) (q1 (qB 0 3 60 xMk)) (fun (a,b,d,i,k,_) (c,_)=>(xbD a b,(d,i,k,c),fun p=>(.leaf (.exit 0) [AV.osl 0 0 0 p.1] [bF 0 3 60 p.2]))) (0,[]) fun (a,b,_,_,_,_) _ (d,i,k,c)=>(((a,b,d,i,k,()),(c,())),xdY a b d i k c none)
def xol (a b:LA):=Iter (xbD a b) (0,0,0,[])
def xok (a b:LA):=(xol a b).getD (0,[])
def xoi (a b:LA):=(xok a b).snd
def xoj (a b:LA):=(xok a b).fst
def xpg {T:Type} (a b:LA) (δ:T) (κ:LA->T):T:=br ((xol a b).isSome) (br (decide (0+xoj a b<=(xoi a b).length)&&true) (κ (List.take (xoj a b) (List.drop 0 (xoi a b)))) δ) δ
def xro (a b:LA):=xpg a b none some
def xvO:EO:=xD8.f Tryz.func97 61 0 [] [(3,xpV.lp)] (lk1 xpV.ok) (u2 (uL 3) (uL 3)) (fun (a,b,_) _=>xpg a b) (fun _ p=>AV.list 3 p) []
def xk3 (R:LA->Option (LA)):LA->Option (Bool×AV):=ocOf (xMh (xMw 3 xMk) xMj) fun (l,_)=>((R l).isSome,AV.list 3 ((R l).getD []))
def xfy (R:LA->Option (LA)):Env:=(xvO.E.with 82 (xk3 R)).fn 20 0 (lsOf []) (xLV [])
def xkm (R:LA->Option (LA)):Prop:=OcOk P0 xMf 82 (xk3 R)
theorem xts (R:LA->Option (LA)) (a:xkm R):xLz P0 (xMf.at 0) (xfy R):=(xvO.ok.with a).fn
theorem xsp (R:LA->Option (LA)):LoOk P0 (xMf.at (xfy R).pin) (xfy R) (Tryz.f82.body.getD .skip):=xfp (by kernel_rfl)
def xm4 (l:LA):=decide (0<=i64.wrap ((↑l.length:Int).tdiv 2))&&decide (i64.wrap ((↑l.length:Int).tdiv 2)<=(↑l.length:Int))
def xm5 (R:LA->Option (LA)) (l:LA):Option (LA):=R (List.take (l.length - (i64.wrap ((↑l.length:Int).tdiv 2)).toNat) (List.drop (i64.wrap ((↑l.length:Int).tdiv 2)).toNat l))
def xm3 (R:LA->Option (LA)) (l:LA):Option (LA):=xro ((R (List.take ((i64.wrap ((↑l.length:Int).tdiv 2)).toNat - 0) (List.drop 0 l))).getD []) ((xm5 R l).getD [])
def xfY {T:Type} (R:LA->Option (LA)) (l:LA) (δ:T) (κ:LA->T):T:=br (decide ((↑l.length:Int)<2)) (κ (l)) (br (xm4 l&&true) (br ((R (List.take ((i64.wrap ((↑l.length:Int).tdiv 2)).toNat - 0) (List.drop 0 l))).isSome) (br (xm4 l) (br ((xm5 R l).isSome) (br ((xm3 R l).isSome) (κ ((xm3 R l).getD [])) δ) δ) δ) δ) δ)
def xcL (R:LA->Option (LA)) (l:LA):=xfY R l none some
theorem xwD (R:LA->Option (LA)) (l:LA):Enc (fun (p:LA)=>((AV.list 3 p):AV)) (xcL R l) (XF P0 (xfy R) Tryz.f82 (Tryz.f82.body.getD .skip) [AV.list 3 l]):=by
 have h:XF P0 (xfy R) Tryz.f82 (Tryz.f82.body.getD .skip) [AV.list 3 l]=xfY R l none (fun (p:LA)=>some ((AV.list 3 p):AV)):=by kernel_rfl
 rw [h];unfold xcL xfY;repeat' (first|refine Enc.br ?_ ?_|exact Enc.none|exact Enc.some rfl)
def xwC (R:LA->Option (LA)):LA->Option (Bool×AV):=ocOf (xMh (xMw 3 xMk) xMj) fun (l,_)=>((xcL R l).isSome,(AV.list 3 ((xcL R l).getD [])))
theorem xwB (R:LA->Option (LA)) (c:xkm R):OcOk P0 xMf 82 (xwC R):=xhm fun e g f=>by
 obtain ⟨l,_⟩:=e;obtain ⟨a,b⟩:=Prod.mk.inj f;refine xfj (p:=(xfy R).pin) (xhj xLI (xLJ P0 _) rfl (xts R c) Tryz.func82 rfl (by kernel_rfl) (xsp R) ((xwD R _ _ (xbF (d:=[]) a)).trans ?_))
 exact congrArg some b
def xb2:Nat->LA->Option (LA)
 | 0=>fun _=>none
 | fu_+1=>fun l=>xcL (xb2 fu_) l
theorem xpW:∀ n,xkm (xb2 n)
 | 0=>xhm fun _ _ h=>absurd (Prod.mk.inj h).1 Bool.false_ne_true
 | fu_+1=>fun a r h=>xwB (xb2 fu_) (xpW fu_) a r h
def xD9:Env:=xvO.E.with 82 (xk3 (xb2 100))
theorem xEb:xLz P0 xMf xD9:=xvO.ok.with (xpW _)
def xEa:EO:=EO.mk xD9 xEb
def xb8 (a b:Int):Bool:=(br (decide (a>=0)) (br (decide (a<b)) ((decide (b<=1099511627776))) ((false))) ((false)))
def xzu {T:Type} (a b:Int) (δ:T) (κ:Bool->T):T:=br (decide (a>=0)) (br (decide (a<b)) (κ (decide (b<=1099511627776))) (κ (false))) (κ (false))
def xIP:EO:=xEa.fT Tryz.func59 18 0 [] [] lk0 (fun ((a,b,_),_)=>xzu a b none) (u1 (xMy (u2 uI uI))) (fun ((a,b,_),_)=>xb8 a b) (fun _ p=>(AV.bool p))
def xlA (a b t:Int):Bool:=(br (xb8 a b) (br (decide (a<=t)) ((decide (t<b))) ((false))) ((false)))
def xvz {T:Type} (a b t:Int) (δ:T) (κ:Bool->T):T:=br (xb8 a b) (br (decide (a<=t)) (κ (decide (t<b))) (κ (false))) (κ (false))
def xIQ:EO:=xIP.fT Tryz.func121 19 0 [] [] lk0 (fun ((a,b,_),t,_)=>xvz a b t none) (u2 (xMy (u2 uI uI)) uI) (fun ((a,b,_),t,_)=>xlA a b t) (fun _ p=>(AV.bool p))
def xmn (a b c d:Int):Int:=(br (a==c&&(b==d&&true)) ((0)) (br (decide (a<c)) (((-1))) (br (a==c) (br (decide (b<d)) (((-1))) ((1))) ((1)))))
def xww {T:Type} (a b c d:Int) (δ:T) (κ:Int->T):T:=br (a==c&&(b==d&&true)) (κ (0)) (br (decide (a<c)) (κ ((-1))) (br (a==c) (br (decide (b<d)) (κ ((-1))) (κ (1))) (κ (1))))
def xHl:EO:=xIQ.fT Tryz.func101 27 0 [] [] lk0 (fun ((a,b,_),(c,d,_),_)=>xww a b c d none) (u2 (xMy (u2 uI uI)) (xMy (u2 uI uI))) (fun ((a,b,_),(c,d,_),_)=>xmn a b c d) (fun _ p=>(AV.int .i64 p))
def xDA:Int×Int×List UInt8:=((0,0,[]))
def xAP {T:Type} (δ:T) (κ:Int×Int×List UInt8->T):T:=κ (0,0,[])
def xHm:EO:=xHl.fT Tryz.func180 2 0 [] [] lk0 (fun _=>xAP none) xMj (fun _=>xDA) (fun _ p=>(AV.agg [AV.int .i64 p.1,AV.int .i64 p.2.1,AV.str p.2.2]))
def xwA {T:Type} (a:LA) (i:Int) (δ:T) (κ:Int×Int×List UInt8->T):T:=br (decide (i<0)) (κ (0,0,[])) (br (decide (i>=a.length)) (κ (0,0,[])) (br (ixI a i) (br (ixT a i 3 [Sh.int .i64,Sh.int .i64,Sh.str] 0) (κ ((gC a i 0).toInt,(gC a i 1).toInt,(gC a i 2).toStr)) δ) δ))
def xsQ (a:LA) (i:Int):=xwA a i none some
def xBX:EO:=xHm.f Tryz.func175 18 0 [] [] lk0 (u2 (uL 3) uI) (fun (a,i,_) _=>xwA a i) (fun _ p=>AV.agg [AV.int .i64 p.1,AV.int .i64 p.2.1,AV.str p.2.2]) (0,0,[])
def xkZ (o:LA) (i:Int):=ixI o i
def xpP (a o:LA) (i:Int):=(xsQ a (gC o i 0).toInt).getD (0,0,[])
def xpQ (b o:LA) (i:Int):=(xsQ b (gC o i 0).toInt).getD (0,0,[])
def xpN (b o:LA) (i:Int):=(xpQ b o i).snd
def xpO (a o:LA) (i:Int):=(xpP a o i).snd
def xpM (a b o:LA) (i:Int):=xhp (xpP a o i).fst (xpO a o i).fst (xpO a o i).snd (xpQ b o i).fst (xpN b o i).fst (xpN b o i).snd
def xlV {T:Type} (a b o:LA) (i:Int) (δ:T) (κl:(Int)->T) (κr:(Bool×(Bool)×(Unit))->T):T:=br (decide (i<o.length)) (br (xkZ o i) (br (ixS o i (Sh.int .i64) 0) (br ((xsQ a (gC o i 0).toInt).isSome) (br (xkZ o i) (br (ixS o i (Sh.int .i64) 0) (br ((xsQ b (gC o i 0).toInt).isSome) (br (xpM a b o i != 0) (br (xkZ o i) (br (decide (i.toNat<o.length)&&xLw Sh.bool (gC o i 1)) (κr (true,(!decide (xpM a b o i<0)==(gC o i 1).toBool),())) δ) δ) (κl (i64.wrap (i+1)))) δ) δ) δ) δ) δ) δ) (κr (false,false,()))
def xdD (a b o:LA):StT (Int) (Bool×(Bool)×(Unit)):=fun (i)=>xlV a b o i none inL inR
def xpL:=xBX.l 44 0 [] [] Tryz.f168 0 lk0 [0,1,2,7] [0,1,6] [] (q4 (qL 3) (qL 3) (qL 2) qI) xMi (fun (a,b,o,i,_) _=>(xdD a b o,(i),fun p=>(.node p.1 (.leaf .ret [AV.list 3 a,AV.list 3 b,AV.bool p.2.1] []) (.leaf (.exit 0) [AV.list 3 a,AV.list 3 b,.top] [])))) (false,false,()) fun (a,b,o,_,_) _ (i)=>(((a,b,o,i,()),()),xlV a b o i none)
def xpb {T:Type} (a b o:LA) (δ:T) (κ:Bool->T):T:=br ((Iter (xdD a b o) 0).isSome) (br (((Iter (xdD a b o) 0).getD (false,false,())).fst) (κ (((Iter (xdD a b o) 0).getD (false,false,())).snd.fst)) (br ((xa8 a b).isSome) (κ (decide ((xa8 a b).getD 0<0))) δ)) δ
def xn1 (a b o:LA):=xpb a b o none some
def xBY:EO:=xBX.f Tryz.func168 44 0 [] [(2,xpL.lp)] (lk1 xpL.ok) (u3 (uL 3) (uL 3) (uL 2)) (fun (a,b,o,_) _=>xpb a b o) (fun _ p=>AV.bool p) false
def xdo (a:LA) (i:Int):=decide (i.toNat<a.length)&&xLw (Sh.list 3) (gC a i 0)
def xdp (b:LA) (k:Int):=decide (k.toNat<b.length)&&xLw (Sh.list 3) (gC b k 0)
def xdq (a:LA) (i:Int):=ixI a i
def xdr (b:LA) (k:Int):=ixI b k
def xcU {T:Type} (b:LA) (c:Nat) (i k:Int) (a:LA) (δ:T) (κl:(Nat×Int×Int×LA)->T):T:=br (xdr b k) (br (xdp b k) (br (rmB c a 1 24) (κl (c+1,i,i64.wrap (k+1),a++[AV.list 3 (gC b k 0).toList])) δ) δ) δ
def xcV {T:Type} (a:LA) (c:Nat) (i k:Int) (b:LA) (δ:T) (κl:(Nat×Int×Int×LA)->T):T:=br (xdq a i) (br (xdo a i) (br (rmB c b 1 24) (κl (c+1,i64.wrap (i+1),k,b++[AV.list 3 (gC a i 0).toList])) δ) δ) δ
def xcT {T:Type} (a b o:LA) (d:Nat) (i k:Int) (c:LA) (δ:T) (κl:(Nat×Int×Int×LA)->T):T:=br (i==(↑a.length:Int)) (xcU b d i k c δ κl) (br (decide (k<b.length)) (br (xdr b k) (br (xdp b k) (br (xdq a i) (br (xdo a i) (br ((xn1 (gC b k 0).toList (gC a i 0).toList o).isSome) (br ((xn1 (gC b k 0).toList (gC a i 0).toList o).getD false) (xcU b d i k c δ κl) (xcV a d i k c δ κl)) δ) δ) δ) δ) δ) (xcV a d i k c δ κl))
def xdX {T:Type} (a b o:LA) (d:Nat) (i k:Int) (c:LA) (δ:T) (κl:(Nat×Int×Int×LA)->T) (κr:(Nat×LA)->T):T:=br (decide (i<a.length)) (xcT a b o d i k c δ κl) (br (decide (k<b.length)) (xcT a b o d i k c δ κl) (κr (d,c)))
def xbC (a b o:LA):StT (Nat×Int×Int×LA) (Nat×LA):=fun (d,i,k,c)=>xdX a b o d i k c none inL inR
def xpR:=xBY.l 62 0 [] [] Tryz.f160 0 lk0 [0,1,2,7,8,9] [7] [(7,1,54)] (q6 (qL 1) (qL 1) (qL 2) (xMs 0 0 0) qI qI) (q1 (qB 0 1 54 xMk)) (fun (a,b,o,d,i,k,_) (c,_)=>(xbC a b o,(d,i,k,c),fun p=>(.leaf (.exit 0) [AV.osl 0 0 0 p.1] [bF 0 1 54 p.2]))) (0,[]) fun (a,b,o,_,_,_,_) _ (d,i,k,c)=>(((a,b,o,d,i,k,()),(c,())),xdX a b o d i k c none)
def xn5 (a b o:LA):=Iter (xbC a b o) (0,0,0,[])
def xn4 (a b o:LA):=(xn5 a b o).getD (0,[])
def xn2 (a b o:LA):=(xn4 a b o).fst
def xn3 (a b o:LA):=(xn4 a b o).snd
def xpc {T:Type} (a b o:LA) (δ:T) (κ:LA->T):T:=br ((xn5 a b o).isSome) (br (decide (0+xn2 a b o<=(xn3 a b o).length)&&true) (κ (List.take (xn2 a b o) (List.drop 0 (xn3 a b o)))) δ) δ
def xri (a b o:LA):=xpc a b o none some
def xuj:EO:=xBY.f Tryz.func160 62 0 [] [(3,xpR.lp)] (lk1 xpR.ok) (u3 (uL 1) (uL 1) (uL 2)) (fun (a,b,o,_) _=>xpc a b o) (fun _ p=>AV.list 1 p) []
def xm2 (R:LA->LA->Option (LA)):LA->Option (Bool×AV):=ocOf (xMh (xMw 1 xMk) (xMh (xMw 2 xMk) xMj)) fun (l,(o,_))=>((R l o).isSome,AV.list 1 ((R l o).getD []))
def xgP (R:LA->LA->Option (LA)):Env:=(xuj.E.with 141 (xm2 R)).fn 34 0 (lsOf []) (xLV [])
def xlU (R:LA->LA->Option (LA)):Prop:=OcOk P0 xMf 141 (xm2 R)
theorem xuB (R:LA->LA->Option (LA)) (a:xlU R):xLz P0 (xMf.at 0) (xgP R):=(xuj.ok.with a).fn
theorem xsR (R:LA->LA->Option (LA)):LoOk P0 (xMf.at (xgP R).pin) (xgP R) (Tryz.f141.body.getD .skip):=xfp (by kernel_rfl)
def xi6 (l:LA):=decide (0<=i64.wrap ((↑l.length:Int).tdiv 2))&&decide (i64.wrap ((↑l.length:Int).tdiv 2)<=(↑l.length:Int))
def xfw (l:LA):Nat:=0+((l.getD 0 .top).cells.getD 0 .top).toList.length
def xi7 (R:LA->LA->Option (LA)) (l o:LA):Option (LA):=R (List.take (l.length - (i64.wrap ((↑l.length:Int).tdiv 2)).toNat) (List.drop (i64.wrap ((↑l.length:Int).tdiv 2)).toNat l)) o
def xi5 (R:LA->LA->Option (LA)) (l o:LA):Option (LA):=xri ((R (List.take ((i64.wrap ((↑l.length:Int).tdiv 2)).toNat - 0) (List.drop 0 l)) o).getD []) ((xi7 R l o).getD []) o
def xe7 {T:Type} (R:LA->LA->Option (LA)) (l o:LA) (δ:T) (κ:LA->T):T:=br ((↑l.length:Int)==0) (κ ([])) (br ((↑l.length:Int)==1) (br (decide (0<(↑l.length:Int))) (br (decide (0<l.length)&&xLw (Sh.list 3) ((l.getD 0 .top).cells.getD 0 .top)) (br (decide (xfw l*32<=140737488355328)&&decide (xfw l<=4611686018427387904)) (br (decide (0+xfw l<=([]++((l.getD 0 .top).cells.getD 0 .top).toList).length)&&true&&true&&true) (κ ([AV.list 3 (List.take (xfw l) (List.drop 0 ([]++((l.getD 0 .top).cells.getD 0 .top).toList)))])) δ) δ) δ) δ) (br (xi6 l&&true) (br ((R (List.take ((i64.wrap ((↑l.length:Int).tdiv 2)).toNat - 0) (List.drop 0 l)) o).isSome) (br (xi6 l) (br ((xi7 R l o).isSome) (br ((xi5 R l o).isSome) (κ ((xi5 R l o).getD [])) δ) δ) δ) δ) δ))
def xcq (R:LA->LA->Option (LA)) (l o:LA):=xe7 R l o none some
theorem xzy (R:LA->LA->Option (LA)) (l o:LA):Enc (fun (p:LA)=>((AV.list 1 p):AV)) (xcq R l o) (XF P0 (xgP R) Tryz.f141 (Tryz.f141.body.getD .skip) [AV.list 1 l,AV.list 2 o]):=by
 have h:XF P0 (xgP R) Tryz.f141 (Tryz.f141.body.getD .skip) [AV.list 1 l,AV.list 2 o]=xe7 R l o none (fun (p:LA)=>some ((AV.list 1 p):AV)):=by kernel_rfl
 rw [h];unfold xcq xe7;repeat' (first|refine Enc.br ?_ ?_|exact Enc.none|exact Enc.some rfl)
def xzw (R:LA->LA->Option (LA)):LA->Option (Bool×AV):=ocOf (xMh (xMw 1 xMk) (xMh (xMw 2 xMk) xMj)) fun (l,(o,_))=>((xcq R l o).isSome,(AV.list 1 ((xcq R l o).getD [])))
theorem xzv (R:LA->LA->Option (LA)) (c:xlU R):OcOk P0 xMf 141 (xzw R):=xhm fun e g f=>by
 obtain ⟨l,⟨o,_⟩⟩:=e;obtain ⟨a,b⟩:=Prod.mk.inj f;refine xfj (p:=(xgP R).pin) (xhj xLI (xLJ P0 _) rfl (xuB R c) Tryz.func141 rfl (by kernel_rfl) (xsR R) ((xzy R _ _ _ (xbF (d:=[]) a)).trans ?_))
 exact congrArg some b
def xck:Nat->LA->LA->Option (LA)
 | 0=>fun _ _=>none
 | fu_+1=>fun l o=>xcq (xck fu_) l o
theorem xrg:∀ n,xlU (xck n)
 | 0=>xhm fun _ _ h=>absurd (Prod.mk.inj h).1 Bool.false_ne_true
 | fu_+1=>fun a r h=>xzv (xck fu_) (xrg fu_) a r h
def xBZ:Env:=xuj.E.with 141 (xm2 (xck 1000))
theorem xCQ:xLz P0 xMf xBZ:=xuj.ok.with (xrg _)
def xCP:EO:=EO.mk xBZ xCQ
def xrh {T:Type} (l:LA) (δ:T) (κ:LA->T):T:=br ((xck 1000 l []).isSome) (κ ((xck 1000 l []).getD [])) δ
def xn0 (l:LA):=xrh l none some
def xBx:EO:=xCP.f Tryz.func119 5 0 [] [] lk0 (u1 (uL 1)) (fun (l,_) _=>xrh l) (fun _ p=>AV.list 1 p) []
def xgs (a:LA) (i:Int):=decide (i.toNat<a.length)&&xLw (Sh.list 3) (gC a i 0)
def xgt (a:LA) (i:Int):=ixI a i
def xgu (a:LA) (i:Int):=xrY ((a.getD (i64.wrap (i - 1)).toNat .top).cells.getD 0 .top).toList (gC a i 0).toList
def xeC {T:Type} (c:LA) (b:Nat) (i:Int) (a:LA) (δ:T) (κl:(Nat×Int×LA)->T):T:=br (xgt c i) (br (xgs c i) (br (rmB b a 1 24) (κl (b+1,i64.wrap (i+1),a++[AV.list 3 (gC c i 0).toList])) δ) δ) δ
def xfh {T:Type} (a:LA) (c:Nat) (i:Int) (b:LA) (δ:T) (κl:(Nat×Int×LA)->T) (κr:(Nat×LA)->T):T:=br (decide (i<a.length)) (br (i==0) (xeC a c i b δ κl) (br (decide (0<=i64.wrap (i - 1))&&decide (i64.wrap (i - 1)<(↑a.length:Int))) (br (decide ((i64.wrap (i - 1)).toNat<a.length)&&xLw (Sh.list 3) ((a.getD (i64.wrap (i - 1)).toNat .top).cells.getD 0 .top)) (br (xgt a i) (br (xgs a i) (br ((xgu a i).isSome) (br (!(xgu a i).getD false) (xeC a c i b δ κl) (κl (c,i64.wrap (i+1),b))) δ) δ) δ) δ) δ)) (κr (c,b))
def xb9 (c:LA):StT (Nat×Int×LA) (Nat×LA):=fun (b,i,a)=>xfh c b i a none inL inR
def xnx:=xBx.l 38 0 [] [] Tryz.f98 0 lk0 [3,4,5] [4] [(4,1,54)] (q3 (qL 1) (xMs 0 0 0) qI) (q1 (qB 0 1 54 xMk)) (fun (c,b,i,_) (a,_)=>(xb9 c,(b,i,a),fun p=>(.leaf (.exit 0) [AV.osl 0 0 0 p.1] [bF 0 1 54 p.2]))) (0,[]) fun (c,_,_,_) _ (b,i,a)=>(((c,b,i,()),(a,())),xfh c b i a none)
def xlT (l:LA):=(Iter (xb9 ((xn0 l).getD [])) (0,0,[])).getD (0,[])
def xlR (l:LA):=(xlT l).fst
def xlS (l:LA):=(xlT l).snd
def xm1 {T:Type} (l:LA) (δ:T) (κ:LA->T):T:=br ((xn0 l).isSome) (br ((Iter (xb9 ((xn0 l).getD [])) (0,0,[])).isSome) (br (decide (0+xlR l<=(xlS l).length)&&true) (κ (List.take (xlR l) (List.drop 0 (xlS l)))) δ) δ) δ
def xpa (l:LA):=xm1 l none some
def xB0:EO:=xBx.f Tryz.func98 38 0 [] [(4,xnx.lp)] (lk1 xnx.ok) (u1 (uL 1)) (fun (l,_) _=>xm1 l) (fun _ p=>AV.list 1 p) []
def xkw {T:Type} (l:LA) (b:Nat) (i:Int) (a:LA) (δ:T) (κl:(Nat×Int×LA)->T) (κr:(Nat×LA)->T):T:=br (decide (i<l.length)) (br (ixI l i) (br (ixT l i 3 [Sh.int .i64,Sh.int .i64] 1) (br (xb8 (gC l i 1).toInt (gC l i 2).toInt) (br (ixI l i) (br (ixS l i (Sh.list 3) 0) (br (rmB b a 1 24) (κl (b+1,i64.wrap (i+1),a++[AV.list 3 (gC l i 0).toList])) δ) δ) δ) (κl (b,i64.wrap (i+1),a))) δ) δ) (κr (b,a))
def xeD (l:LA):StT (Nat×Int×LA) (Nat×LA):=fun (b,i,a)=>xkw l b i a none inL inR
def xrm:=xB0.l 27 0 [] [] Tryz.f83 0 lk0 [0,3,4] [3] [(3,1,54)] (q3 (qL 3) (xMs 0 0 0) qI) (q1 (qB 0 1 54 xMk)) (fun (l,b,i,_) (a,_)=>(xeD l,(b,i,a),fun p=>(.leaf (.exit 0) [AV.osl 0 0 0 p.1] [bF 0 1 54 p.2]))) (0,[]) fun (l,_,_,_) _ (b,i,a)=>(((l,b,i,()),(a,())),xkw l b i a none)
def xqn (l:LA):=(Iter (xeD l) (0,0,[])).getD (0,[])
def xql (l:LA):=(xqn l).snd
def xqm (l:LA):=(xqn l).fst
def xqk (l:LA):=xpa (List.take (xqm l) (List.drop 0 (xql l)))
def xrn {T:Type} (l:LA) (δ:T) (κ:LA->T):T:=br ((Iter (xeD l) (0,0,[])).isSome) (br (decide (0+xqm l<=(xql l).length)&&true) (br ((xqk l).isSome) (κ ((xqk l).getD [])) δ) δ) δ
def xqK (l:LA):=xrn l none some
def xwW:EO:=xB0.f Tryz.func83 27 0 [] [(3,xrm.lp)] (lk1 xrm.ok) (u1 (uL 3)) (fun (l,_) _=>xrn l) (fun _ p=>AV.list 1 p) []
def xhn:Env:=xwW.E.fn 51 1 (lsOf []) (xLV [])
theorem xvB:xLz P0 (xMf.at 1) xhn:=xwW.ok.fn
theorem xtr:LoOk P0 (xMf.at xhn.pin) xhn (Tryz.f100.body.getD .skip):=xfp (by kernel_rfl)
def xej (k:Nat) (a:LA):=(List.take ((i64.wrap ((↑k:Int) - 1)).toNat - 0) (List.drop 0 a)).length
def xmp (k:Nat) (a:LA):=decide (0+(i64.wrap ((↑k:Int) - 1)).toNat<a.length)
def xj2 (k:Nat) (a:LA):=((a.getD (0+(i64.wrap ((↑k:Int) - 1)).toNat) .top).cells.getD 1 .top).toInt
def xmq (k:Nat):=decide (0<=i64.wrap ((↑k:Int) - 1))
def xj1 (k:Nat):=xmq k&&decide (i64.wrap ((↑k:Int) - 1)<(↑k:Int))
def xmo (k:Nat) (a:LA):=xmp k a&&xLw (Sh.int .i64) ((a.getD (0+(i64.wrap ((↑k:Int) - 1)).toNat) .top).cells.getD 1 .top)
def xiT {T:Type} (k:Nat) (a b:Int) (c:LA) (δ:T) (κ:Bool×(Nat×LA×LA)×(Nat×LA)->T):T:=br (rmB k c 1 16) (κ (false,(0,[],[]),(k+1,c++[AV.agg [AV.int .i64 a,AV.int .i64 b]]))) δ
def xkY {T:Type} (k:Nat) (b c:Int) (a:LA) (δ:T) (κ:Bool×(Nat×LA×LA)×(Nat×LA)->T):T:=br (decide ((↑k:Int)>0)) (br (xj1 k) (br (xmo k a) (br (decide (xj2 k a>=b)) (br (xmq k&&decide (i64.wrap ((↑k:Int) - 1)<=(↑k:Int))&&true) (br (decide (0+((i64.wrap ((↑k:Int) - 1)).toNat - 0)<=a.length)&&(decide (xej k a*16<=140737488355328)&&decide (xej k a<=4611686018427387904))) (br (xj1 k) (br (xmp k a&&xLw (Sh.int .i64) ((a.getD (0+(i64.wrap ((↑k:Int) - 1)).toNat) .top).cells.getD 0 .top)) (br (xj1 k) (br (xmo k a) (br (xej k a==xej k a&&(decide ((xej k a+1)*16<=140737488355328)&&decide (xej k a+1<=4611686018427387904))) (κ (true,(xej k a+1,a,List.take ((i64.wrap ((↑k:Int) - 1)).toNat - 0) (List.drop 0 a)++[AV.agg [AV.int .i64 ((a.getD (0+(i64.wrap ((↑k:Int) - 1)).toNat) .top).cells.getD 0 .top).toInt,AV.int .i64 (if c>xj2 k a then c else xj2 k a)]]),(0,[]))) δ) δ) δ) δ) δ) δ) δ) (xiT k b c a δ κ)) δ) δ) (xiT k b c a δ κ)
def xcj (k:Nat) (a b:Int) (c:LA):=xkY k a b c none some
theorem xAO (k:Nat) (a b:Int) (xs:LA):Enc (fun (p:Bool×(Nat×LA×LA)×(Nat×LA))=>((br p.1 ((AV.osl 1 0 0 p.2.1.1,([⟨0,2,56,p.2.1.2.1,false,true⟩,⟨0,2,56,p.2.1.2.2,false,true⟩]:List Box))) ((AV.osl 0 1 0 p.2.2.1,([⟨1,2,56,p.2.2.2,false,true⟩]:List Box)))):(AV×List Box))) (xcj k a b xs) (XFM P0 xhn Tryz.f100 (Tryz.f100.body.getD .skip) [AV.osl (0:Id) 0 0 k,AV.agg [AV.int .i64 a,AV.int .i64 b]] [{ ver:=0,sz:=2,ty:=(56:TypeId),xs:=xs,frz:=false,pm:=true }]):=by
 have h:XFM P0 xhn Tryz.f100 (Tryz.f100.body.getD .skip) [AV.osl (0:Id) 0 0 k,AV.agg [AV.int .i64 a,AV.int .i64 b]] [{ ver:=0,sz:=2,ty:=(56:TypeId),xs:=xs,frz:=false,pm:=true }]=xkY k a b xs none (fun (p:Bool×(Nat×LA×LA)×(Nat×LA))=>some ((br p.1 ((AV.osl 1 0 0 p.2.1.1,([⟨0,2,56,p.2.1.2.1,false,true⟩,⟨0,2,56,p.2.1.2.2,false,true⟩]:List Box))) ((AV.osl 0 1 0 p.2.2.1,([⟨1,2,56,p.2.2.2,false,true⟩]:List Box)))):(AV×List Box))):=by kernel_rfl
 rw [h];unfold xcj xkY xiT;repeat' (first|refine Enc.br ?_ ?_|exact Enc.none|exact Enc.some rfl)
def xAN:LA->List Box->Option (Bool×AV×List Box):=omOf (xMh (sEq (xMs 0 0 0)) (xMh (xMy (xMh (sEq (pInt .i64)) (xMh (sEq (pInt .i64)) xMj))) xMj)) (xMg (xMv 0 2 (56:TypeId) false true xMk) xMi) fun (k,((a,(b,_)),_)) (c,_)=>((xcj k a b c).isSome,(AV.osl 1 0 0 (br ((xcj k a b c).getD (false,(0,[],[]),(0,[]))).1 ((xcj k a b c).getD (false,(0,[],[]),(0,[]))).2.1.1 ((xcj k a b c).getD (false,(0,[],[]),(0,[]))).2.2.1),
 ([⟨2,2,56,[],false,true⟩,⟨0,2,56,br ((xcj k a b c).getD (false,(0,[],[]),(0,[]))).1 ((xcj k a b c).getD (false,(0,[],[]),(0,[]))).2.1.2.2 ((xcj k a b c).getD (false,(0,[],[]),(0,[]))).2.2.2,false,true⟩]:List Box)))
theorem xAM:OmOk P0 xMf 100 (xAN):=xnc fun e f j h g=>by
 obtain ⟨k,⟨⟨c,⟨i,_⟩⟩,_⟩⟩:=e;obtain ⟨l,_⟩:=f;obtain ⟨b,a⟩:=Prod.mk.inj g;have hx:=xAO _ _ _ _ _ (xbF (d:=(false,(0,[],[]),(0,[]))) b);revert hx a;generalize ((xcj _ _ _ _).getD (false,(0,[],[]),(0,[])))=p;intro a hx;obtain ⟨rfl,rfl⟩:=Prod.mk.inj a;obtain ⟨t,⟨m,n,o⟩,q,r⟩:=p;have hg:GoodM P0 xMf 100 _ _ _ _:=xhy (p:=xhn.pin) (xjw xLI (xLJ P0 _) rfl xvB rfl Tryz.func100 rfl (by kernel_rfl) xtr hx)
 cases t
 . exact GoodM.move0 rfl (by decide) hg
 . exact GoodM.drop0 rfl (by decide) hg
def xCO:EO:=xwW.wM xAM
def xgg {T:Type} (l:LA) (n:Int) (b:Nat) (i:Int) (a:LA) (δ:T) (κl:(Nat×Int×LA)->T) (κr:(Nat×Int×LA)->T):T:=br (decide (i<l.length)) (br (ixI l i) (br (ixS l i (Sh.int .i64) 0) (br (decide ((gC l i 0).toInt<n)) (br (ixI l i) (br (ixS l i (Sh.int .i64) 0) (br (rmB b a 1 8) (κl (b+1,i64.wrap (i+1),a++[AV.int .i64 (gC l i 0).toInt])) δ) δ) δ) (κr (b,i,a))) δ) δ) (κr (b,i,a))
def xcC (l:LA) (n:Int):StT (Nat×Int×LA) (Nat×Int×LA):=fun (b,i,a)=>xgg l n b i a none inL inR
def xkX:=xCO.l 58 0 [] [] Tryz.f54 0 lk0 [0,1,5,6] [0,1,5,6] [(5,1,3)] (q4 (qL 1) qI (xMs 0 0 0) qI) (q1 (qB 0 1 3 xMk)) (fun (l,n,b,i,_) (a,_)=>(xcC l n,(b,i,a),fun p=>(.leaf (.exit 0) [AV.list 1 l,AV.int .i64 n,AV.osl 0 0 0 p.1,AV.int .i64 p.2.1] [bF 0 1 3 p.2.2]))) (0,0,[]) fun (l,n,_,_,_) _ (b,i,a)=>(((l,n,b,i,()),(a,())),xgg l n b i a none)
def xiz {T:Type} (l:LA) (b:Nat) (i:Int) (a:LA) (δ:T) (κl:(Nat×Int×LA)->T) (κr:(Nat×LA)->T):T:=br (decide (i<l.length)) (br (ixI l i) (br (ixS l i (Sh.int .i64) 0) (br (rmB b a 1 8) (κl (b+1,i64.wrap (i+1),a++[AV.int .i64 (gC l i 0).toInt])) δ) δ) δ) (κr (b,a))
def xcD (l:LA):StT (Nat×Int×LA) (Nat×LA):=fun (b,i,a)=>xiz l b i a none inL inR
def xpJ:=xCO.l 58 0 [] [(3,xkX.lp)] Tryz.f54 1 lk0 [0,5,6] [5] [(5,1,3)] (q3 (qL 1) (xMs 0 0 0) qI) (q1 (qB 0 1 3 xMk)) (fun (l,b,i,_) (a,_)=>(xcD l,(b,i,a),fun p=>(.leaf (.exit 2) [AV.osl 0 0 0 p.1] [bF 0 1 3 p.2]))) (0,[]) fun (l,_,_,_) _ (b,i,a)=>(((l,b,i,()),(a,())),xiz l b i a none)
def xgZ (l:LA) (n:Int):=(Iter (xcC l n) (0,0,[])).getD (0,0,[])
def xfs (l:LA) (n:Int):=(xgZ l n).fst
def xgY (l:LA) (n:Int):=(xgZ l n).snd
def xbx (l:LA) (n:Int):=(xgY l n).fst
def xfq (l:LA) (n:Int):=xfs l n+1
def xfr (l:LA) (n:Int):=(xgY l n).snd
def xhI (l:LA) (n:Int):=Iter (xcD l) (xfq l n,xbx l n,xfr l n++[AV.int .i64 n])
def xhM (l:LA) (n:Int):=Iter (xcD l) (xfs l n,xbx l n,xfr l n)
def xjS (l:LA) (n:Int):=xfs l n==(xfr l n).length
def xhH (l:LA) (n:Int):=(xhI l n).getD (0,[])
def xku (l:LA) (n:Int):=(xhI l n).isSome
def xhL (l:LA) (n:Int):=(xhM l n).getD (0,[])
def xhF (l:LA) (n:Int):=(xhH l n).snd
def xhG (l:LA) (n:Int):=(xhH l n).fst
def xhJ (l:LA) (n:Int):=(xhL l n).fst
def xhK (l:LA) (n:Int):=(xhL l n).snd
def xmY {T:Type} (l:LA) (n:Int) (δ:T) (κ:LA->T):T:=br (xjS l n&&(decide (xfq l n*8<=140737488355328)&&decide (xfq l n<=4611686018427387904))) (br (xku l n) (br (decide (0+xhG l n<=(xhF l n).length)&&true) (κ (List.take (xhG l n) (List.drop 0 (xhF l n)))) δ) δ) δ
def xo1 {T:Type} (l:LA) (n:Int) (δ:T) (κ:LA->T):T:=br ((Iter (xcC l n) (0,0,[])).isSome) (br (xbx l n==(↑l.length:Int)) (xmY l n δ κ) (br (decide (0<=xbx l n)&&decide (xbx l n<l.length)) (br (decide ((xbx l n).toNat<l.length)&&xLw (Sh.int .i64) ((l.getD (xbx l n).toNat .top).cells.getD 0 .top)) (br (decide (((l.getD (xbx l n).toNat .top).cells.getD 0 .top).toInt>n)) (xmY l n δ κ) (br ((xhM l n).isSome) (br (decide (0+xhJ l n<=(xhK l n).length)&&true) (κ (List.take (xhJ l n) (List.drop 0 (xhK l n)))) δ) δ)) δ) δ)) δ
def xgX (l:LA) (n:Int):=xo1 l n none some
def xzL:EO:=xCO.f Tryz.func54 58 0 [] [(3,xkX.lp),(8,xpJ.lp)] (lks (lkC xkX.ok (lkC xpJ.ok lkN))) (u2 (uL 1) uI) (fun (l,n,_) _=>xo1 l n) (fun _ p=>AV.list 1 p) []
def xi4:Env:=xzL.E.fn 28 1 (lsOf []) (xLV [])
theorem xwy:xLz P0 (xMf.at 1) xi4:=xzL.ok.fn
theorem xt2:LoOk P0 (xMf.at xi4.pin) xi4 (Tryz.f122.body.getD .skip):=xfp (by kernel_rfl)
def xho {T:Type} (k:Nat) (a n:Int) (b:LA) (δ:T) (κ:Bool×(Nat×LA)×(Nat×LA)->T):T:=br (rmB k b 1 16) (κ (false,(0,[]),(k+1,b++[AV.agg [AV.int .i64 a,AV.int .i64 n]]))) δ
def xj8 {T:Type} (k:Nat) (a n:Int) (b:LA) (δ:T) (κ:Bool×(Nat×LA)×(Nat×LA)->T):T:=br (decide ((↑k:Int)>0)) (br (decide (0<=i64.wrap ((↑k:Int) - 1))&&decide (i64.wrap ((↑k:Int) - 1)<(↑k:Int))) (br (decide (0+(i64.wrap ((↑k:Int) - 1)).toNat<b.length)&&xLw (Sh.int .i64) ((b.getD (0+(i64.wrap ((↑k:Int) - 1)).toNat) .top).cells.getD 1 .top)) (br (((b.getD (0+(i64.wrap ((↑k:Int) - 1)).toNat) .top).cells.getD 1 .top).toInt==n) (κ (true,(k,b),(0,[]))) (xho k a n b δ κ)) δ) δ) (xho k a n b δ κ)
def xdn (k:Nat) (a n:Int) (b:LA):=xj8 k a n b none some
theorem xBE (k:Nat) (a n:Int) (xs:LA):Enc (fun (p:Bool×(Nat×LA)×(Nat×LA))=>((br p.1 ((AV.osl 0 0 0 p.2.1.1,([⟨0,2,131,p.2.1.2,false,true⟩]:List Box))) ((AV.osl 0 1 0 p.2.2.1,([⟨1,2,131,p.2.2.2,false,true⟩]:List Box)))):(AV×List Box))) (xdn k a n xs) (XFM P0 xi4 Tryz.f122 (Tryz.f122.body.getD .skip) [AV.osl (0:Id) 0 0 k,AV.int .i64 a,AV.int .i64 n] [{ ver:=0,sz:=2,ty:=(131:TypeId),xs:=xs,frz:=false,pm:=true }]):=by
 have h:XFM P0 xi4 Tryz.f122 (Tryz.f122.body.getD .skip) [AV.osl (0:Id) 0 0 k,AV.int .i64 a,AV.int .i64 n] [{ ver:=0,sz:=2,ty:=(131:TypeId),xs:=xs,frz:=false,pm:=true }]=xj8 k a n xs none (fun (p:Bool×(Nat×LA)×(Nat×LA))=>some ((br p.1 ((AV.osl 0 0 0 p.2.1.1,([⟨0,2,131,p.2.1.2,false,true⟩]:List Box))) ((AV.osl 0 1 0 p.2.2.1,([⟨1,2,131,p.2.2.2,false,true⟩]:List Box)))):(AV×List Box))):=by kernel_rfl
 rw [h];unfold xdn xj8 xho;repeat' (first|refine Enc.br ?_ ?_|exact Enc.none|exact Enc.some rfl)
def xBD:LA->List Box->Option (Bool×AV×List Box):=omOf (xMh (sEq (xMs 0 0 0)) (xMh (sEq (pInt .i64)) (xMh (sEq (pInt .i64)) xMj))) (xMg (xMv 0 2 (131:TypeId) false true xMk) xMi) fun (k,(a,(n,_))) (b,_)=>((xdn k a n b).isSome,(AV.osl 0 1 0 (br ((xdn k a n b).getD (false,(0,[]),(0,[]))).1 ((xdn k a n b).getD (false,(0,[]),(0,[]))).2.1.1 ((xdn k a n b).getD (false,(0,[]),(0,[]))).2.2.1),([⟨1,2,131,(br ((xdn k a n b).getD (false,(0,[]),(0,[]))).1 ((xdn k a n b).getD (false,(0,[]),(0,[]))).2.1.2 ((xdn k a n b).getD (false,(0,[]),(0,[]))).2.2.2),false,true⟩]:List Box)))
theorem xBC:OmOk P0 xMf 122 (xBD):=xnc fun e f j i g=>by
 obtain ⟨k,⟨b,⟨n,_⟩⟩⟩:=e;obtain ⟨h,_⟩:=f;obtain ⟨c,a⟩:=Prod.mk.inj g;have hx:=xBE _ _ _ _ _ (xbF (d:=(false,(0,[]),(0,[]))) c);revert hx a;generalize ((xdn k b n h).getD (false,(0,[]),(0,[])))=p;intro a hx;obtain ⟨rfl,rfl⟩:=Prod.mk.inj a;obtain ⟨t,⟨l,m⟩,o,q⟩:=p;have hg:GoodM P0 xMf 122 _ _ _ _:=xhy (p:=xi4.pin) (xjw xLI (xLJ P0 _) rfl xwy rfl Tryz.func122 rfl (by kernel_rfl) xt2 hx)
 cases t
 . exact hg
 . exact GoodM.bump1 rfl (by decide) hg
def xvP:EO:=xzL.wM xBC
def xiU (l:LA) (i:Int):=ixI l i
def xmr {T:Type} (l a:LA) (i:Int) (δ:T) (κl:(LA×Int)->T) (κr:(LA)->T):T:=br (decide (i<l.length)) (br (xiU l i) (br (ixT l i 3 [Sh.int .i64,Sh.int .i64] 0) (br (xb8 (gC l i 0).toInt (gC l i 1).toInt) (br (xiU l i) (br (ixS l i (Sh.int .i64) 0) (br ((xgX a (gC l i 0).toInt).isSome) (br (xiU l i) (br (ixS l i (Sh.int .i64) 1) (br ((xgX ((xgX a (gC l i 0).toInt).getD []) (gC l i 1).toInt).isSome) (κl ((xgX ((xgX a (gC l i 0).toInt).getD []) (gC l i 1).toInt).getD [],i64.wrap (i+1))) δ) δ) δ) δ) δ) δ) (κl (a,i64.wrap (i+1)))) δ) δ) (κr (a))
def xft (l:LA):StT (LA×Int) (LA):=fun (a,i)=>xmr l a i none inL inR
def xlB:=xvP.l 82 0 [] [] Tryz.f99 0 lk0 [0,3,4] [0,3] [(3,1,1073741824)] (q3 (qL 3) (qL 1) qI) xMi (fun (l,a,i,_) _=>(xft l,(a,i),fun p=>(.leaf (.exit 0) [AV.list 3 l,AV.list 1 p] []))) [] fun (l,_,_,_) _ (a,i)=>(((l,a,i,()),()),xmr l a i none)
def xms {T:Type} (l b:LA) (c:Nat) (k n i:Int) (a:LA) (δ:T) (κl:(Int×Int×LA)->T) (κr:(Int×LA)->T):T:=br (decide (i<l.length)) (br (ixI l i) (br (ixT l i 3 [Sh.int .i64,Sh.int .i64] 0) (br (ixI b k) (br (ixS b k (Sh.int .i64) 0) (br (xlA (gC l i 0).toInt (gC l i 1).toInt (gC b k 0).toInt) (br (ixI l i) (br (ixS l i (Sh.int .i64) 2) (κl (i64.wrap (n+(gC l i 2).toInt),i64.wrap (i+1),a)) δ) δ) (κl (n,i64.wrap (i+1),a))) δ) δ) δ) δ) (κr (n,a))
def xfv (l c:LA) (b:Nat) (k:Int):StT (Int×Int×LA) (Int×LA):=fun (n,i,a)=>xms l c b k n i a none inL inR
def xlC:=xvP.l 82 0 [] [(3,xlB.lp)] Tryz.f99 2 lk0 [0,3,5,6,7,8] [0,3,5,6,7] [(5,2,131),(3,1,1073741824)] (q6 (qL 3) (qL 1) (xMs 0 0 0) qI qI qI) (q1 (qB 0 2 131 xMk)) (fun (l,c,a,k,n,i,_) (b,_)=>(xfv l c a k,(n,i,b),fun p=>(.leaf (.exit 4) [AV.list 3 l,AV.list 1 c,AV.osl 0 0 0 a,AV.int .i64 k,AV.int .i64 p.1] [bF 0 2 131 p.2]))) (0,[]) fun (l,c,a,k,_,_,_) _ (n,i,b)=>(((l,c,a,k,n,i,()),(b,())),xms l c a k n i b none)
def xi0 (l c:LA) (b:Nat) (k:Int) (a:LA):=(Iter (xfv l c b k) (0,0,a)).getD (0,[])
def xix (l c:LA) (a:Nat) (k:Int) (b:LA):=xdn a (gC c k 0).toInt (xi0 l c a k b).fst (xi0 l c a k b).snd
def xiZ (l c:LA) (b:Nat) (k:Int) (a:LA):=(xix l c b k a).getD (false,(0,[]),0,[])
def xiX (l c:LA) (b:Nat) (k:Int) (a:LA):=(xiZ l c b k a).snd
def xiY (l c:LA) (b:Nat) (k:Int) (a:LA):=(xiZ l c b k a).fst
def xiV (l c:LA) (b:Nat) (k:Int) (a:LA):=(xiX l c b k a).snd
def xiW (l c:LA) (b:Nat) (k:Int) (a:LA):=(xiX l c b k a).fst
def xj3 {T:Type} (l c:LA) (b:Nat) (k:Int) (a:LA) (δ:T) (κl:(Nat×Int×LA)->T) (κr:(Nat×LA)->T):T:=br (decide (k<c.length)) (br (ixI c k) (br (ixS c k (Sh.int .i64) 0) (br (decide ((gC c k 0).toInt<1099511627776)) (br ((Iter (xfv l c b k) (0,0,a)).isSome) (br (ixI c k) (br (ixS c k (Sh.int .i64) 0) (br ((xix l c b k a).isSome) (κl (br (xiY l c b k a) (xiW l c b k a).fst (xiV l c b k a).fst,i64.wrap (k+1),br (xiY l c b k a) (xiW l c b k a).snd (xiV l c b k a).snd)) δ) δ) δ) δ) (κr (b,a))) δ) δ) (κr (b,a))
def xfu (l c:LA):StT (Nat×Int×LA) (Nat×LA):=fun (b,k,a)=>xj3 l c b k a none inL inR
def xso:=xvP.l 82 0 [] [(3,xlB.lp),(14,xlC.lp)] Tryz.f99 1 (lk1 xlC.ok) [0,3,5,6] [5] [(5,2,131),(3,1,1073741824)] (q4 (qL 3) (qL 1) (xMs 0 0 0) qI) (q1 (qB 0 2 131 xMk)) (fun (l,c,b,k,_) (a,_)=>(xfu l c,(b,k,a),fun p=>(.leaf (.exit 2) [AV.osl 0 0 0 p.1] [bF 0 2 131 p.2]))) (0,[]) fun (l,c,_,_,_) _ (b,k,a)=>(((l,c,b,k,()),(a,())),xj3 l c b k a none)
def xrX (l:LA):=Iter (xfu l ((Iter (xft l) ([AV.int .i64 0],0)).getD [])) (0,0,[])
def xrW (l:LA):=(xrX l).getD (0,[])
def xrU (l:LA):=(xrW l).fst
def xrV (l:LA):=(xrW l).snd
def xsP {T:Type} (l:LA) (δ:T) (κ:LA->T):T:=br ((Iter (xft l) ([AV.int .i64 0],0)).isSome) (br ((xrX l).isSome) (br (decide (0+xrU l<=(xrV l).length)&&true) (κ (List.take (xrU l) (List.drop 0 (xrV l)))) δ) δ) δ
def xvC (l:LA):=xsP l none some
def xEc:EO:=xvP.f Tryz.func99 82 0 [] [(3,xlB.lp),(14,xlC.lp),(10,xso.lp)] (lks (lkC xlB.ok (lkC xso.ok (lkC xlC.ok lkN)))) (u1 (uL 3)) (fun (l,_) _=>xsP l) (fun _ p=>AV.list 2 p) []
def xiD {T:Type} (l c:LA) (b:Nat) (i:Int) (a:LA) (δ:T) (κl:(Nat×Int×LA)->T) (κr:(Nat×LA)->T):T:=br (decide (i<l.length)) (br (ixI l i) (br (ixS l i (Sh.list 3) 0) (br ((xa8 (gC l i 0).toList c).isSome) (br ((xa8 (gC l i 0).toList c).getD 0==0) (br (ixI l i) (br (ixT l i 3 [Sh.int .i64,Sh.int .i64] 1) (br (rmB b a 1 24) (κl (b+1,i64.wrap (i+1),a++[AV.agg [AV.int .i64 (gC l i 1).toInt,AV.int .i64 (gC l i 2).toInt,AV.int .i64 1]])) δ) δ) δ) (κl (b,i64.wrap (i+1),a))) δ) δ) δ) (κr (b,a))
def xdE (l b:LA):StT (Nat×Int×LA) (Nat×LA):=fun (c,i,a)=>xiD l b c i a none inL inR
def xpS:=xEc.l 32 0 [] [] Tryz.f84 0 lk0 [0,1,5,6] [5] [(5,3,136)] (q4 (qL 3) (qL 3) (xMs 0 0 0) qI) (q1 (qB 0 3 136 xMk)) (fun (l,b,c,i,_) (a,_)=>(xdE l b,(c,i,a),fun p=>(.leaf (.exit 0) [AV.osl 0 0 0 p.1] [bF 0 3 136 p.2]))) (0,[]) fun (l,b,_,_,_) _ (c,i,a)=>(((l,b,c,i,()),(a,())),xiD l b c i a none)
def xoa (l a:LA):=(Iter (xdE l a) (0,0,[])).getD (0,[])
def xn8 (l a:LA):=(xoa l a).snd
def xn9 (l a:LA):=(xoa l a).fst
def xn7 (l a:LA):=xvC (List.take (xn9 l a) (List.drop 0 (xn8 l a)))
def xpd {T:Type} (l a:LA) (δ:T) (κ:LA->T):T:=br ((Iter (xdE l a) (0,0,[])).isSome) (br (decide (0+xn9 l a<=(xn8 l a).length)&&true) (br ((xn7 l a).isSome) (κ ((xn7 l a).getD [])) δ) δ) δ
def xn6 (l a:LA):=xpd l a none some
def xvQ:EO:=xEc.f Tryz.func84 32 0 [] [(3,xpS.lp)] (lk1 xpS.ok) (u2 (uL 3) (uL 3)) (fun (l,a,_) _=>xpd l a) (fun _ p=>AV.list 2 p) []
def xgh {T:Type} (a:LA) (c:Nat) (i k:Int) (b:LA) (δ:T) (κl:(Int×LA)->T) (κr:(Int×LA)->T):T:=br (decide (k<a.length)) (br (ixI a k) (br (ixS a k (Sh.list 3) 0) (br (ixI a i) (br (ixS a i (Sh.list 3) 0) (br ((xa8 (gC a k 0).toList (gC a i 0).toList).isSome) (br ((xa8 (gC a k 0).toList (gC a i 0).toList).getD 0==0) (κl (i64.wrap (k+1),b)) (κr (k,b))) δ) δ) δ) δ) δ) (κr (k,b))
def xb1 (c:LA) (b:Nat) (i:Int):StT (Int×LA) (Int×LA):=fun (k,a)=>xgh c b i k a none inL inR
def xfJ:=xvQ.l 66 0 [] [] Tryz.f62 1 lk0 [3,4,5,6] [3,4,5,6] [(4,2,96)] (q4 (qL 3) (xMs 0 0 0) qI qI) (q1 (qB 0 2 96 xMk)) (fun (c,a,i,k,_) (b,_)=>(xb1 c a i,(k,b),fun p=>(.leaf (.exit 2) [AV.list 3 c,AV.osl 0 0 0 a,AV.int .i64 i,AV.int .i64 p.1] [bF 0 2 96 p.2]))) (0,[]) fun (c,a,i,_,_) _ (k,b)=>(((c,a,i,k,()),(b,())),xgh c a i k b none)
def xgi {T:Type} (d:LA) (i k:Int) (a:LA) (c:Nat) (n:Int) (b:LA) (δ:T) (κl:(Nat×Int×LA)->T) (κr:(Nat×LA)->T):T:=br (decide (n<a.length)) (br (ixI a n) (br (ixS a n (Sh.list 3) 0) (br (decide (0<=k)&&decide (k<=d.length)&&(decide (0<=i)&&decide (i<=(↑k.toNat:Int)))) (br (ixI a n) (br (ixS a n (Sh.list 3) 0) (br ((xn6 (List.take (k.toNat - i.toNat) (List.drop i.toNat d)) (gC a n 0).toList).isSome) (br (rmB c b 1 48) (κl (c+1,i64.wrap (n+1),b++[AV.agg [AV.list 3 (gC a n 0).toList,AV.list 2 ((xn6 (List.take (k.toNat - i.toNat) (List.drop i.toNat d)) (gC a n 0).toList).getD [])]])) δ) δ) δ) δ) δ) δ) δ) (κr (c,b))
def xdG (d:LA) (i k:Int) (c:LA):StT (Nat×Int×LA) (Nat×LA):=fun (b,n,a)=>xgi d i k c b n a none inL inR
def xhP:=xvQ.l 66 0 [] [(6,xfJ.lp)] Tryz.f62 2 lk0 [3,4,5,6,7,8] [3,4,6] [(4,2,96)] (q6 (qL 3) (xMs 0 0 0) qI qI (qL 1) qI) (q1 (qB 0 2 96 xMk)) (fun (d,b,i,k,c,n,_) (a,_)=>(xdG d i k c,(b,n,a),fun p=>(.leaf (.exit 4) [AV.list 3 d,AV.osl 0 0 0 p.1,AV.int .i64 k] [bF 0 2 96 p.2]))) (0,[]) fun (d,_,i,k,c,_,_) _ (b,n,a)=>(((d,b,i,k,c,n,()),(a,())),xgi d i k c b n a none)
def xcw (c:LA) (b:Nat) (i:Int) (a:LA):=((Iter (xb1 c b i) (i,a)).getD (0,[])).fst
def xk2 (c:LA) (a:Nat) (i:Int) (b:LA):=Iter (xdG c i (xcw c a i b) ((xqK (List.take ((xcw c a i b).toNat - i.toNat) (List.drop i.toNat c))).getD [])) (a,0,((Iter (xb1 c a i) (i,b)).getD (0,[])).snd)
def xk1 (c:LA) (b:Nat) (i:Int) (a:LA):=(xk2 c b i a).getD (0,[])
def xiF {T:Type} (c:LA) (b:Nat) (i:Int) (a:LA) (δ:T) (κl:(Nat×Int×LA)->T) (κr:(Nat×LA)->T):T:=br (decide (i<c.length)) (br ((Iter (xb1 c b i) (i,a)).isSome) (br (decide (0<=xcw c b i a)&&decide (xcw c b i a<=c.length)&&(decide (0<=i)&&decide (i<=(↑(xcw c b i a).toNat:Int)))) (br ((xqK (List.take ((xcw c b i a).toNat - i.toNat) (List.drop i.toNat c))).isSome) (br ((xk2 c b i a).isSome) (κl ((xk1 c b i a).fst,xcw c b i a,(xk1 c b i a).snd)) δ) δ) δ) δ) (κr (b,a))
def xdF (c:LA):StT (Nat×Int×LA) (Nat×LA):=fun (b,i,a)=>xiF c b i a none inL inR
def xpU:=xvQ.l 66 0 [] [(6,xfJ.lp),(10,xhP.lp)] Tryz.f62 0 (lks (lkC xfJ.ok (lkC xhP.ok lkN))) [3,4,5] [4] [(4,2,96)] (q3 (qL 3) (xMs 0 0 0) qI) (q1 (qB 0 2 96 xMk)) (fun (c,b,i,_) (a,_)=>(xdF c,(b,i,a),fun p=>(.leaf (.exit 0) [AV.osl 0 0 0 p.1] [bF 0 2 96 p.2]))) (0,[]) fun (c,_,_,_) _ (b,i,a)=>(((c,b,i,()),(a,())),xiF c b i a none)
def xoh (l:LA):=Iter (xdF ((xb2 100 l).getD [])) (0,0,[])
def xog (l:LA):=(xoh l).getD (0,[])
def xoe (l:LA):=(xog l).snd
def xof (l:LA):=(xog l).fst
def xpf {T:Type} (l:LA) (δ:T) (κ:LA->T):T:=br ((xb2 100 l).isSome) (br ((xoh l).isSome) (br (decide (0+xof l<=(xoe l).length)&&true) (κ (List.take (xof l) (List.drop 0 (xoe l)))) δ) δ) δ
def xk0 (l:LA):=xpf l none some
def xEd:EO:=xvQ.f Tryz.func62 66 0 [] [(6,xfJ.lp),(10,xhP.lp),(4,xpU.lp)] (lks (lkC xpU.ok (lkC xfJ.ok (lkC xhP.ok lkN)))) (u1 (uL 3)) (fun (l,_) _=>xpf l) (fun _ p=>AV.list 2 p) []
def xd4 (l:LA) (n i:Int):=decide ((gC l i 1).toInt>=n)
def xb0 (l:LA) (i:Int):=ixI l i
def xdA (l:LA) (b:Nat) (i:Int) (a:LA):=(xcj b (gC l i 0).toInt 1099511627776 a).getD (false,(0,[],[]),0,[])
def xdB (l:LA) (b:Nat) (i:Int) (a:LA):=xcj b (gC l i 0).toInt ((l.getD (i64.wrap (i+1)).toNat .top).cells.getD 0 .top).toInt a
def xdC (l:LA) (i:Int):=decide (i64.wrap (i+1)<(↑l.length:Int))
def xeb (l:LA) (b:Nat) (i:Int) (a:LA):=(xdB l b i a).getD (false,(0,[],[]),0,[])
def xec (l:LA) (b:Nat) (i:Int) (a:LA):=(xdA l b i a).snd
def xed (l:LA) (b:Nat) (i:Int) (a:LA):=(xdA l b i a).fst
def xd7 (l:LA) (b:Nat) (i:Int) (a:LA):=(xeb l b i a).snd
def xd8 (l:LA) (b:Nat) (i:Int) (a:LA):=(xeb l b i a).fst
def xd9 (l:LA) (b:Nat) (i:Int) (a:LA):=(xec l b i a).fst
def xea (l:LA) (b:Nat) (i:Int) (a:LA):=(xec l b i a).snd
def xd5 (l:LA) (b:Nat) (i:Int) (a:LA):=(xd7 l b i a).snd
def xd6 (l:LA) (b:Nat) (i:Int) (a:LA):=(xd7 l b i a).fst
def xdm {T:Type} (l:LA) (n:Int) (b:Nat) (i:Int) (a:LA) (δ:T) (κl:(Nat×Int×LA)->T) (κr:(Nat×LA)->T):T:=br (decide (i<l.length)) (br (xdC l i) (br (decide (0<=i64.wrap (i+1))&&xdC l i) (br (decide ((i64.wrap (i+1)).toNat<l.length)&&xLw (Sh.int .i64) ((l.getD (i64.wrap (i+1)).toNat .top).cells.getD 0 .top)) (br (xb0 l i) (br (ixS l i (Sh.int .i64) 1) (br (xd4 l n i) (br (xb0 l i) (br (ixS l i (Sh.int .i64) 0) (br ((xdB l b i a).isSome) (κl (br (xd8 l b i a) (xd6 l b i a).fst (xd5 l b i a).fst,i64.wrap (i+1),br (xd8 l b i a) (xd6 l b i a).snd.snd (xd5 l b i a).snd)) δ) δ) δ) (κl (b,i64.wrap (i+1),a))) δ) δ) δ) δ) (br (xb0 l i) (br (ixS l i (Sh.int .i64) 1) (br (xd4 l n i) (br (xb0 l i) (br (ixS l i (Sh.int .i64) 0) (br ((xcj b (gC l i 0).toInt 1099511627776 a).isSome) (κl (br (xed l b i a) (xd9 l b i a).fst (xea l b i a).fst,i64.wrap (i+1),br (xed l b i a) (xd9 l b i a).snd.snd (xea l b i a).snd)) δ) δ) δ) (κl (b,i64.wrap (i+1),a))) δ) δ)) (κr (b,a))
def xbh (l:LA) (n:Int):StT (Nat×Int×LA) (Nat×LA):=fun (b,i,a)=>xdm l n b i a none inL inR
def xoL:=xEd.l 42 0 [] [] Tryz.f85 0 lk0 [0,1,5,6] [5] [(5,2,56)] (q4 (qL 2) qI (xMs 0 0 0) qI) (q1 (qB 0 2 56 xMk)) (fun (l,n,b,i,_) (a,_)=>(xbh l n,(b,i,a),fun p=>(.leaf (.exit 0) [AV.osl 0 0 0 p.1] [bF 0 2 56 p.2]))) (0,[]) fun (l,n,_,_,_) _ (b,i,a)=>(((l,n,b,i,()),(a,())),xdm l n b i a none)
def xm0 (l:LA) (n:Int):=(Iter (xbh l n) (0,0,[])).getD (0,[])
def xmZ (l:LA) (n:Int):=(xm0 l n).snd
def xmx (l:LA) (n:Int):=(xm0 l n).fst
def xnT {T:Type} (l:LA) (n:Int) (δ:T) (κ:LA->T):T:=br ((Iter (xbh l n) (0,0,[])).isSome) (br (decide (0+xmx l n<=(xmZ l n).length)&&true) (κ (List.take (xmx l n) (List.drop 0 (xmZ l n)))) δ) δ
def xe6 (l:LA) (n:Int):=xnT l n none some
def xEe:EO:=xEd.f Tryz.func85 42 0 [] [(3,xoL.lp)] (lk1 xoL.ok) (u2 (uL 2) uI) (fun (l,n,_) _=>xnT l n) (fun _ p=>AV.list 2 p) []
def xiC (l:LA) (i:Int):=decide (i.toNat<l.length)&&((l.getD i.toNat .top).cells.length==2&&xLE [Sh.int .i64,Sh.int .i64] (l.getD i.toNat .top).cells 0)
def xgx {T:Type} (l:LA) (b:Nat) (i c d:Int) (a:LA) (δ:T) (κl:(Nat×Int×Int×Int×LA)->T) (κr:(Nat×Int×Int×Int×LA)->T):T:=br (decide (i<l.length)) (br (ixI l i) (br (xiC l i) (br (decide (xmn (gC l i 0).toInt (gC l i 1).toInt c d<=0)) (br (ixI l i) (br (xiC l i) (br (rmB b a 1 16) (κl (b+1,i64.wrap (i+1),c,d,a++[AV.agg [AV.int .i64 (gC l i 0).toInt,AV.int .i64 (gC l i 1).toInt]])) δ) δ) δ) (κr (b,i,c,d,a))) δ) δ) (κr (b,i,c,d,a))
def xcS (l:LA):StT (Nat×Int×Int×Int×LA) (Nat×Int×Int×Int×LA):=fun (b,i,c,d,a)=>xgx l b i c d a none inL inR
def xqB:=xEe.l 38 0 [] [] Tryz.f86 0 lk0 [0,3,5,6] [0,3,5,6] [(5,2,56)] (q4 (qL 2) (xMt 0 0 0 0) (xMs 1 0 0) qI) (q2 (qB 0 2 56 (q1 (xMu (q2 qI qI)))) (qB 0 2 56 xMk)) (fun (l,_,b,i,_) (((c,d,_),_),a,_)=>(xcS l,(b,i,c,d,a),fun p=>(.leaf (.exit 0) [AV.list 2 l,AV.own 0 0 0 0,AV.osl 1 0 0 p.1,AV.int .i64 p.2.1] [bF 0 2 56 [AV.agg [AV.int .i64 p.2.2.1,AV.int .i64 p.2.2.2.1]],bF 0 2 56 p.2.2.2.2]))) (0,0,0,0,[]) fun (l,_,_,_,_) _ (b,i,c,d,a)=>(((l,(),b,i,()),(((c,d,()),()),a,())),xgx l b i c d a none)
def xnY (l:LA) (a b:Int):=Iter (xcS l) (0,0,a,b,[])
def xnX (l:LA) (a b:Int):=(xnY l a b).getD (0,0,0,0,[])
def xo9 (l:LA) (a b:Int):=(xnX l a b).snd
def xnW (l:LA) (a b:Int):=(xnX l a b).fst
def xi2 (l:LA) (a b:Int):=xnW l a b+1
def xi3 (l:LA) (a b:Int):=(xo9 l a b).fst
def xo8 (l:LA) (a b:Int):=(xo9 l a b).snd
def xo5 (l:LA) (a b:Int):=List.take (l.length - (xi3 l a b).toNat) (List.drop (xi3 l a b).toNat l)
def xo7 (l:LA) (a b:Int):=(xo8 l a b).snd
def xi1 (l:LA) (a b:Int):=xi2 l a b+(xo5 l a b).length
def xo6 (l:LA) (a b:Int):=(xo7 l a b).snd
def xo4 (l:LA) (a b:Int):=xo6 l a b++[AV.agg [AV.int .i64 (xo8 l a b).fst,AV.int .i64 (xo7 l a b).fst]]
def xo3 (l:LA) (a b:Int):=xo4 l a b++xo5 l a b
def xqi {T:Type} (l:LA) (a b:Int) (δ:T) (κ:LA->T):T:=br ((xnY l a b).isSome) (br (xnW l a b==(xo6 l a b).length&&(decide (xi2 l a b*16<=140737488355328)&&decide (xi2 l a b<=4611686018427387904))) (br (decide (0<=xi3 l a b)&&decide (xi3 l a b<=l.length)) (br (xi2 l a b==(xo4 l a b).length&&(decide (xi1 l a b*16<=140737488355328)&&decide (xi1 l a b<=4611686018427387904))) (br (decide (0+xi1 l a b<=(xo3 l a b).length)&&true) (κ (List.take (xi1 l a b) (List.drop 0 (xo3 l a b)))) δ) δ) δ) δ) δ
def xpw (l:LA) (a b:Int):=xqi l a b none some
def xzM:EO:=xEe.f Tryz.func86 38 0 [] [(3,xqB.lp)] (lk1 xqB.ok) (u2 (uL 2) (xMy (u2 uI uI))) (fun (l,(a,b,_),_) _=>xqi l a b) (fun _ p=>AV.list 2 p) []
def xiB {T:Type} (l:LA) (n:Int) (a b:LA) (i:Int) (δ:T) (κl:(LA×Int)->T) (κr:(LA)->T):T:=br (decide (i<a.length)) (br (ixI a i) (br (ixT a i 2 [Sh.int .i64,Sh.int .i64] 0) (br ((xpw b (gC a i 0).toInt (gC a i 1).toInt).isSome) (κl ((xpw b (gC a i 0).toInt (gC a i 1).toInt).getD [],i64.wrap (i+1))) δ) δ) δ) (κr (b))
def xcF (l:LA) (n:Int) (b:LA):StT (LA×Int) (LA):=fun (a,i)=>xiB l n b a i none inL inR
def xhN:=xzM.l 31 0 [] [] Tryz.f64 1 lk0 [0,3,4,5,6] [0,3,4] [(3,2,1073741824)] (q5 (qL 2) (qL 2) qI (qL 2) qI) xMi (fun (l,a,n,b,i,_) _=>(xcF l n b,(a,i),fun p=>(.leaf (.exit 2) [AV.list 2 l,AV.list 2 p,AV.int .i64 n] []))) [] fun (l,_,n,b,_,_) _ (a,i)=>(((l,a,n,b,i,()),()),xiB l n b a i none)
def xiA {T:Type} (l a:LA) (n:Int) (δ:T) (κl:(LA×Int)->T) (κr:(Bool×(LA×LA)×(LA))->T):T:=br (decide (n<=1048576)) (br ((xe6 l n).isSome) (br ((↑((xe6 l n).getD []).length:Int)==0) (κr (true,(a,a),[])) (br ((Iter (xcF l n ((xe6 l n).getD [])) (a,0)).isSome) (κl ((Iter (xcF l n ((xe6 l n).getD [])) (a,0)).getD [],i64.wrap (n+1))) δ)) δ) (κr (false,([],[]),(a)))
def xcE (l:LA):StT (LA×Int) (Bool×(LA×LA)×(LA)):=fun (a,n)=>xiA l a n none inL inR
def xpK:=xzM.l 31 0 [] [(9,xhN.lp)] Tryz.f64 0 (lk1 xhN.ok) [0,3,4] [2,3] [(3,2,1073741824)] (q3 (qL 2) (qL 2) qI) xMi (fun (l,a,n,_) _=>(xcE l,(a,n),fun p=>(.node p.1 (.leaf .ret [AV.list 2 p.2.1.1,AV.list 2 p.2.1.2] []) (.leaf (.exit 0) [.top,AV.list 2 p.2.2] [])))) (false,([],[]),[]) fun (l,_,_,_) _ (a,n)=>(((l,a,n,()),()),xiA l a n none)
def xnV (l:LA):=(Iter (xcE l) ([],1)).getD (false,([],[]),[])
def xnU (l:LA):=(xnV l).snd
def xo2 {T:Type} (l:LA) (δ:T) (κ:LA->T):T:=br ((Iter (xcE l) ([],1)).isSome) (br ((xnV l).fst) (κ ((xnU l).fst.fst)) (κ ((xnU l).snd))) δ
def xeS (l:LA):=xo2 l none some
def xEf:EO:=xzM.f Tryz.func64 31 0 [] [(9,xhN.lp),(3,xpK.lp)] (lks (lkC xpK.ok (lkC xhN.ok lkN))) (u1 (uL 2)) (fun (l,_) _=>xo2 l) (fun _ p=>AV.list 2 p) []
def xiE {T:Type} (d c:LA) (b:Nat) (i:Int) (a:LA) (δ:T) (κl:(Nat×Int×LA)->T) (κr:(Nat×LA)->T):T:=br (decide (i<c.length)) (br (ixI c i) (br (ixT c i 2 [Sh.int .i64,Sh.int .i64] 0) (br (rmB b a 1 40) (κl (b+1,i64.wrap (i+1),a++[AV.agg [AV.list 3 d,AV.int .i64 (gC c i 0).toInt,AV.int .i64 (gC c i 1).toInt]])) δ) δ) δ) (κr (b,a))
def xcG (c d:LA):StT (Nat×Int×LA) (Nat×LA):=fun (b,i,a)=>xiE c d b i a none inL inR
def xpT:=xEf.l 23 0 [] [] Tryz.f63 0 lk0 [0,1,5,6] [5] [(5,3,60)] (q4 (qL 3) (qL 2) (xMs 0 0 0) qI) (q1 (qB 0 3 60 xMk)) (fun (c,d,b,i,_) (a,_)=>(xcG c d,(b,i,a),fun p=>(.leaf (.exit 0) [AV.osl 0 0 0 p.1] [bF 0 3 60 p.2]))) (0,[]) fun (c,d,_,_,_) _ (b,i,a)=>(((c,d,b,i,()),(a,())),xiE c d b i a none)
def xod (a b:LA):=(Iter (xcG a b) (0,0,[])).getD (0,[])
def xob (a b:LA):=(xod a b).fst
def xoc (a b:LA):=(xod a b).snd
def xpe {T:Type} (a b:LA) (δ:T) (κ:LA->T):T:=br ((Iter (xcG a b) (0,0,[])).isSome) (br (decide (0+xob a b<=(xoc a b).length)&&true) (κ (List.take (xob a b) (List.drop 0 (xoc a b)))) δ) δ
def xkx (a b:LA):=xpe a b none some
def xEg:EO:=xEf.f Tryz.func63 23 0 [] [(3,xpT.lp)] (lk1 xpT.ok) (u2 (uL 3) (uL 2)) (fun (a,b,_) _=>xpe a b) (fun _ p=>AV.list 3 p) []
def xkv (g:LA) (a:Nat) (i:Int):=a+((xkx (gC g i 0).toList ((xeS (gC g i 1).toList).getD [])).getD []).length
def xlD {T:Type} (g:LA) (a:Nat) (i:Int) (b:LA) (δ:T) (κl:(Nat×Int×LA)->T) (κr:(Nat×LA)->T):T:=br (decide (i<g.length)) (br (ixI g i) (br (ixS g i (Sh.list 3) 0) (br (ixI g i) (br (ixS g i (Sh.list 2) 1) (br ((xeS (gC g i 1).toList).isSome) (br ((xkx (gC g i 0).toList ((xeS (gC g i 1).toList).getD [])).isSome) (br (a==b.length&&(decide (xkv g a i*40<=140737488355328)&&decide (xkv g a i<=4611686018427387904))) (κl (xkv g a i,i64.wrap (i+1),b++(xkx (gC g i 0).toList ((xeS (gC g i 1).toList).getD [])).getD [])) δ) δ) δ) δ) δ) δ) δ) (κr (a,b))
def xex (g:LA):StT (Nat×Int×LA) (Nat×LA):=fun (b,i,a)=>xlD g b i a none inL inR
def xrH:=xEg.l 29 0 [] [] Tryz.f30 0 lk0 [3,4,5] [4] [(4,3,60)] (q3 (qL 2) (xMs 0 0 0) qI) (q1 (qB 0 3 60 xMk)) (fun (g,b,i,_) (a,_)=>(xex g,(b,i,a),fun p=>(.leaf (.exit 0) [AV.osl 0 0 0 p.1] [bF 0 3 60 p.2]))) (0,[]) fun (g,_,_,_) _ (b,i,a)=>(((g,b,i,()),(a,())),xlD g b i a none)
def xrl (l:LA):=(Iter (xex ((xk0 l).getD [])) (0,0,[])).getD (0,[])
def xrj (l:LA):=(xrl l).snd
def xrk (l:LA):=(xrl l).fst
def xrZ {T:Type} (l:LA) (δ:T) (κ:LA->T):T:=br ((xk0 l).isSome) (br ((Iter (xex ((xk0 l).getD [])) (0,0,[])).isSome) (br (decide (0+xrk l<=(xrj l).length)&&true) (κ (List.take (xrk l) (List.drop 0 (xrj l)))) δ) δ) δ
def xgL (l:LA):=xrZ l none some
def xEh:EO:=xEg.f Tryz.func30 29 0 [] [(4,xrH.lp)] (lk1 xrH.ok) (u1 (uL 3)) (fun (l,_) _=>xrZ l) (fun _ p=>AV.list 3 p) []
def xlE {T:Type} (l:LA) (i:Int) (δ:T) (κl:(Int)->T) (κr:(Bool×(Bool)×(Unit))->T):T:=br (decide (i<l.length)) (br (ixI l i) (br (ixS l i (Sh.list 3) 0) (br (decide ((↑(gC l i 0).toList.length:Int)>60)) (κr (true,(false),())) (κl (i64.wrap (i+1)))) δ) δ) (κr (false,false,()))
def xcR (l:LA):StT (Int) (Bool×(Bool)×(Unit)):=fun (i)=>xlE l i none inL inR
def xrI:=xEh.l 23 0 [] [] Tryz.f16 0 lk0 [0,5] [4] [] (q2 (qL 3) qI) xMi (fun (l,i,_) _=>(xcR l,(i),fun p=>(.node p.1 (.leaf .ret [AV.bool p.2.1] []) (.leaf (.exit 0) [.top] [])))) (false,false,()) fun (l,_,_) _ (i)=>(((l,i,()),()),xlE l i none)
def xrx {T:Type} (l:LA) (a:Int) (δ:T) (κ:Bool->T):T:=br (decide ((↑l.length:Int)>a)) (κ (false)) (br ((Iter (xcR l) 0).isSome) (br (((Iter (xcR l) 0).getD (false,false,())).fst) (κ (((Iter (xcR l) 0).getD (false,false,())).snd.fst)) (κ (true))) δ)
def xnf (l:LA) (a:Int):=xrx l a none some
def xIR:EO:=xEh.f Tryz.func16 23 0 [] [(4,xrI.lp)] (lk1 xrI.ok) (u2 (uL 3) uI) (fun (l,a,_) _=>xrx l a) (fun _ p=>AV.bool p) false
def xkn {T:Type} (c d:Int) (a:LA) (o p e f g h i j:Int) (b:LA) (q r k l m n:Int) (δ:T) (κ:Bool->T):T:=br (c==i) (br (d==j) (br (o==q&&(p==r&&true)) (br (e==k&&(f==l&&true)) (br (g==m) (br (h==n) (br ((xa8 a b).isSome) (κ ((xa8 a b).getD 0==0)) δ) (κ (false))) (κ (false))) (κ (false))) (κ (false))) (κ (false))) (κ (false))
def xlX (a b:Int) (m:LA) (n o c d e f g h:Int) (p:LA) (q r i j k l:Int):=xkn a b m n o c d e f g h p q r i j k l none some
def xEi:EO:=xIR.f Tryz.func60 53 0 [] [] lk0 (u2 (xMy (xMh uI (xMh uI (u7 (uL 3) uI uI uI uI uI uI)))) (xMy (xMh uI (xMh uI (u7 (uL 3) uI uI uI uI uI uI))))) (fun ((a,b,n,o,q,c,d,e,g,_),(h,i,r,s,t,j,k,l,m,_),_) _=>xkn a b n o q c d e g h i r s t j k l m) (fun _ p=>AV.bool p) false
def xeT (a b:LA) (i:Int):=xlX (gC a i 0).toInt (gC a i 1).toInt (gC a i 2).toList (gC a i 3).toInt (gC a i 4).toInt (gC a i 5).toInt (gC a i 6).toInt (gC a i 7).toInt (gC a i 8).toInt (gC b i 0).toInt (gC b i 1).toInt (gC b i 2).toList (gC b i 3).toInt (gC b i 4).toInt (gC b i 5).toInt (gC b i 6).toInt (gC b i 7).toInt (gC b i 8).toInt
def xfa {T:Type} (a b:LA) (i:Int) (δ:T) (κl:(Int)->T) (κr:(Bool×(Bool)×(Unit))->T):T:=br (decide (i<a.length)) (br (ixI a i) (br (ixT a i 9 [Sh.int .i64,Sh.int .i64,Sh.list 3,Sh.int .i64,Sh.int .i64,Sh.int .i64,Sh.int .i64,Sh.int .i64,Sh.int .i64] 0) (br (ixI b i) (br (ixT b i 9 [Sh.int .i64,Sh.int .i64,Sh.list 3,Sh.int .i64,Sh.int .i64,Sh.int .i64,Sh.int .i64,Sh.int .i64,Sh.int .i64] 0) (br ((xeT a b i).isSome) (br (!(xeT a b i).getD false) (κr (true,(false),())) (κl (i64.wrap (i+1)))) δ) δ) δ) δ) δ) (κr (false,false,()))
def xbw (a b:LA):StT (Int) (Bool×(Bool)×(Unit)):=fun (i)=>xfa a b i none inL inR
def xk5:=xEi.l 27 0 [] [] Tryz.f24 0 lk0 [0,1,5] [4] [] (q3 (qL 9) (qL 9) qI) xMi (fun (a,b,i,_) _=>(xbw a b,(i),fun p=>(.node p.1 (.leaf .ret [AV.bool p.2.1] []) (.leaf (.exit 0) [.top] [])))) (false,false,()) fun (a,b,_,_) _ (i)=>(((a,b,i,()),()),xfa a b i none)
def xjU {T:Type} (a b:LA) (δ:T) (κ:Bool->T):T:=br ((↑a.length:Int) != (↑b.length:Int)) (κ (false)) (br ((Iter (xbw a b) 0).isSome) (br (((Iter (xbw a b) 0).getD (false,false,())).fst) (κ (((Iter (xbw a b) 0).getD (false,false,())).snd.fst)) (κ (true))) δ)
def xk4 (a b:LA):=xjU a b none some
def xEj:EO:=xEi.f Tryz.func24 27 0 [] [(4,xk5.lp)] (lk1 xk5.ok) (u2 (uL 9) (uL 9)) (fun (a,b,_) _=>xjU a b) (fun _ p=>AV.bool p) false
def xjT {T:Type} (l:LA) (b:Nat) (i:Int) (a:LA) (δ:T) (κl:(Nat×Int×LA)->T) (κr:(Nat×LA)->T):T:=br (decide (i<l.length)) (br (ixI l i) (br (ixS l i (Sh.list 3) 2) (br (ixI l i) (br (ixT l i 9 [Sh.int .i64,Sh.int .i64] 3) (br (rmB b a 1 40) (κl (b+1,i64.wrap (i+1),a++[AV.agg [AV.list 3 (gC l i 2).toList,AV.int .i64 (gC l i 3).toInt,AV.int .i64 (gC l i 4).toInt]])) δ) δ) δ) δ) δ) (κr (b,a))
def xef (l:LA):StT (Nat×Int×LA) (Nat×LA):=fun (b,i,a)=>xjT l b i a none inL inR
def xqC:=xEj.l 26 0 [] [] Tryz.f34 0 lk0 [0,3,4] [3] [(3,3,60)] (q3 (qL 9) (xMs 0 0 0) qI) (q1 (qB 0 3 60 xMk)) (fun (l,b,i,_) (a,_)=>(xef l,(b,i,a),fun p=>(.leaf (.exit 0) [AV.osl 0 0 0 p.1] [bF 0 3 60 p.2]))) (0,[]) fun (l,_,_,_) _ (b,i,a)=>(((l,b,i,()),(a,())),xjT l b i a none)
def xpj (l:LA):=(Iter (xef l) (0,0,[])).getD (0,[])
def xph (l:LA):=(xpj l).snd
def xpi (l:LA):=(xpj l).fst
def xqo {T:Type} (l:LA) (δ:T) (κ:LA->T):T:=br ((Iter (xef l) (0,0,[])).isSome) (br (decide (0+xpi l<=(xph l).length)&&true) (κ (List.take (xpi l) (List.drop 0 (xph l)))) δ) δ
def xl6 (l:LA):=xqo l none some
def xIS:EO:=xEj.f Tryz.func34 26 0 [] [(3,xqC.lp)] (lk1 xqC.ok) (u1 (uL 9)) (fun (l,_) _=>xqo l) (fun _ p=>AV.list 3 p) []
def xmt (d e:Int) (i:LA) (g h f b c a:Int):Bool:=(br (decide (d<1)) ((true)) (br (decide (c<1)) ((true)) (br (decide (e<0)) ((true)) (br (decide (a<0)) ((true)) (br (!xb8 g h) ((true)) (br (!xb8 f b) ((true)) (br (a != 0) (br (decide (a<=c)) ((true)) ((b==1099511627776))) ((false)))))))))
def xwE {T:Type} (d e:Int) (i:LA) (g h f b c a:Int) (δ:T) (κ:Bool->T):T:=br (decide (d<1)) (κ (true)) (br (decide (c<1)) (κ (true)) (br (decide (e<0)) (κ (true)) (br (decide (a<0)) (κ (true)) (br (!xb8 g h) (κ (true)) (br (!xb8 f b) (κ (true)) (br (a != 0) (br (decide (a<=c)) (κ (true)) (κ (b==1099511627776))) (κ (false))))))))
def xIy:EO:=xIS.fT Tryz.func44 49 0 [] [] lk0 (fun ((a,b,g,h,i,c,d,e,f,_),_)=>xwE a b g h i c d e f none) (u1 (xMy (xMh uI (xMh uI (u7 (uL 3) uI uI uI uI uI uI))))) (fun ((a,b,g,h,i,c,d,e,f,_),_)=>xmt a b g h i c d e f) (fun _ p=>(AV.bool p))
def xr0 (a g:Int) (o:LA) (e p b h i j c k:Int) (q:LA) (f r d l m n:Int):Bool:=(br (a != c) ((decide (a<c))) (br (b != d) ((decide (b<d))) ((decide (e<f)))))
def xzz {T:Type} (a g:Int) (o:LA) (e p b h i j c k:Int) (q:LA) (f r d l m n:Int) (δ:T) (κ:Bool->T):T:=br (a != c) (κ (decide (a<c))) (br (b != d) (κ (decide (b<d))) (κ (decide (e<f))))
def xIz:EO:=xIy.fT Tryz.func45 36 0 [] [] lk0 (fun ((a,b,m,n,o,c,d,e,f,_),(g,h,q,r,s,i,j,k,l,_),_)=>xzz a b m n o c d e f g h q r s i j k l none) (u2 (xMy (xMh uI (xMh uI (u7 (uL 3) uI uI uI uI uI uI)))) (xMy (xMh uI (xMh uI (u7 (uL 3) uI uI uI uI uI uI))))) (fun ((a,b,m,n,o,c,d,e,f,_),(g,h,q,r,s,i,j,k,l,_),_)=>xr0 a b m n o c d e f g h q r s i j k l) (fun _ p=>(AV.bool p))
def xiS (a b c d:Int):Bool:=(br (xb8 a b) (br (xb8 c d) (br (decide (a<d)) ((decide (c<b))) ((false))) ((false))) ((false)))
def xvA {T:Type} (a b c d:Int) (δ:T) (κ:Bool->T):T:=br (xb8 a b) (br (xb8 c d) (br (decide (a<d)) (κ (decide (c<b))) (κ (false))) (κ (false))) (κ (false))
def xvL:EO:=xIz.fT Tryz.func46 25 0 [] [] lk0 (fun ((a,b,_),(c,d,_),_)=>xvA a b c d none) (u2 (xMy (u2 uI uI)) (xMy (u2 uI uI))) (fun ((a,b,_),(c,d,_),_)=>xiS a b c d) (fun _ p=>(AV.bool p))
def xaQ (l:LA) (i:Int):=(l.getD (i64.wrap (i - 1)).toNat .top).cells
def xiH (l:LA) (i:Int):=decide (i.toNat<l.length)&&((l.getD i.toNat .top).cells.length==9&&xLE [Sh.int .i64,Sh.int .i64,Sh.list 3,Sh.int .i64,Sh.int .i64,Sh.int .i64,Sh.int .i64,Sh.int .i64,Sh.int .i64] (l.getD i.toNat .top).cells 0)
def xg0 {T:Type} (l:LA) (i:Int) (δ:T) (κl:(Int)->T) (κr:(Bool×(Int)×(Unit))->T):T:=br (decide (i<l.length)) (br (ixI l i) (br (xiH l i) (br (xmt (gC l i 0).toInt (gC l i 1).toInt (gC l i 2).toList (gC l i 3).toInt (gC l i 4).toInt (gC l i 5).toInt (gC l i 6).toInt (gC l i 7).toInt (gC l i 8).toInt) (κr (true,(8),())) (br (i==0) (κl (i64.wrap (i+1))) (br (decide (0<=i64.wrap (i - 1))&&decide (i64.wrap (i - 1)<(↑l.length:Int))) (br (decide ((i64.wrap (i - 1)).toNat<l.length)&&((xaQ l i).length==9&&xLE [Sh.int .i64,Sh.int .i64,Sh.list 3,Sh.int .i64,Sh.int .i64,Sh.int .i64,Sh.int .i64,Sh.int .i64,Sh.int .i64] (xaQ l i) 0)) (br (ixI l i) (br (xiH l i) (br (!xr0 ((xaQ l i).getD 0 .top).toInt ((xaQ l i).getD 1 .top).toInt ((xaQ l i).getD 2 .top).toList ((xaQ l i).getD 3 .top).toInt ((xaQ l i).getD 4 .top).toInt ((xaQ l i).getD 5 .top).toInt ((xaQ l i).getD 6 .top).toInt ((xaQ l i).getD 7 .top).toInt ((xaQ l i).getD 8 .top).toInt (gC l i 0).toInt (gC l i 1).toInt (gC l i 2).toList (gC l i 3).toInt (gC l i 4).toInt (gC l i 5).toInt (gC l i 6).toInt (gC l i 7).toInt (gC l i 8).toInt) (κr (true,(9),())) (br (decide (((xaQ l i).getD 7 .top).toInt>(gC l i 7).toInt)) (κr (true,(24),())) (br (((xaQ l i).getD 0 .top).toInt==(gC l i 0).toInt) (br (((xaQ l i).getD 1 .top).toInt != (gC l i 1).toInt) (κr (true,(24),())) (br (((xaQ l i).getD 7 .top).toInt != (gC l i 7).toInt) (κr (true,(24),())) (br (((xaQ l i).getD 8 .top).toInt != (gC l i 8).toInt) (κr (true,(24),())) (br ((xa8 ((xaQ l i).getD 2 .top).toList (gC l i 2).toList).isSome) (br ((xa8 ((xaQ l i).getD 2 .top).toList (gC l i 2).toList).getD 0 != 0) (κr (true,(24),())) (κl (i64.wrap (i+1)))) δ)))) (κl (i64.wrap (i+1)))))) δ) δ) δ) δ))) δ) δ) (κr (false,0,()))
def xbL (l:LA):StT (Int) (Bool×(Int)×(Unit)):=fun (i)=>xg0 l i none inL inR
def xiG:=xvL.l 123 0 [] [] Tryz.f15 0 lk0 [0,3] [0,2] [] (q2 (qL 9) qI) xMi (fun (l,i,_) _=>(xbL l,(i),fun p=>(.node p.1 (.leaf .ret [AV.list 9 l,AV.int .i64 p.2.1] []) (.leaf (.exit 0) [AV.list 9 l,.top] [])))) (false,0,()) fun (l,_,_) _ (i)=>(((l,i,()),()),xg0 l i none)
def xiJ (l:LA) (i:Int):=ixI l i
def xiK (l:LA) (k:Int):=ixI l k
def xjW {T:Type} (l:LA) (i k:Int) (δ:T) (κl:(Int)->T) (κr:(Bool×(Int)×(Unit))->T):T:=br (decide (k<i)) (br (xiJ l i) (br (ixS l i (Sh.int .i64) 0) (br (xiK l k) (br (ixS l k (Sh.int .i64) 0) (br ((gC l i 0).toInt==(gC l k 0).toInt) (br (xiJ l i) (br (ixT l i 9 [Sh.int .i64,Sh.int .i64] 3) (br (xiK l k) (br (ixT l k 9 [Sh.int .i64,Sh.int .i64] 3) (br (xiS (gC l i 3).toInt (gC l i 4).toInt (gC l k 3).toInt (gC l k 4).toInt) (br (xiJ l i) (br (ixT l i 9 [Sh.int .i64,Sh.int .i64] 5) (br (xiK l k) (br (ixT l k 9 [Sh.int .i64,Sh.int .i64] 5) (br (xiS (gC l i 5).toInt (gC l i 6).toInt (gC l k 5).toInt (gC l k 6).toInt) (κr (true,(24),())) (κl (i64.wrap (k+1)))) δ) δ) δ) δ) (κl (i64.wrap (k+1)))) δ) δ) δ) δ) (κl (i64.wrap (k+1)))) δ) δ) δ) δ) (κr (false,0,()))
def xci (l:LA) (i:Int):StT (Int) (Bool×(Int)×(Unit)):=fun (k)=>xjW l i k none inL inR
def xiI:=xvL.l 123 0 [] [(2,xiG.lp)] Tryz.f15 2 lk0 [0,6,7] [0,2,6] [] (q3 (qL 9) qI qI) xMi (fun (l,i,k,_) _=>(xci l i,(k),fun p=>(.node p.1 (.leaf .ret [AV.list 9 l,AV.int .i64 p.2.1,AV.int .i64 i] []) (.leaf (.exit 4) [AV.list 9 l,.top,AV.int .i64 i] [])))) (false,0,()) fun (l,i,_,_) _ (k)=>(((l,i,k,()),()),xjW l i k none)
def xjV {T:Type} (l:LA) (i:Int) (δ:T) (κl:(Int)->T) (κr:(Bool×(Int)×(Unit))->T):T:=br (decide (i<l.length)) (br ((Iter (xci l i) 0).isSome) (br (((Iter (xci l i) 0).getD (false,0,())).fst) (κr (true,(((Iter (xci l i) 0).getD (false,0,())).snd.fst),())) (κl (i64.wrap (i+1)))) δ) (κr (false,0,()))
def xch (l:LA):StT (Int) (Bool×(Int)×(Unit)):=fun (i)=>xjV l i none inL inR
def xqD:=xvL.l 123 0 [] [(2,xiG.lp),(16,xiI.lp)] Tryz.f15 1 (lk1 xiI.ok) [0,6] [2] [] (q2 (qL 9) qI) xMi (fun (l,i,_) _=>(xch l,(i),fun p=>(.node p.1 (.leaf .ret [AV.int .i64 p.2.1] []) (.leaf (.exit 2) [.top] [])))) (false,0,()) fun (l,_,_) _ (i)=>(((l,i,()),()),xjV l i none)
def xqq {T:Type} (l:LA) (δ:T) (κ:Int->T):T:=br ((Iter (xbL l) 0).isSome) (br (((Iter (xbL l) 0).getD (false,0,())).fst) (κ (((Iter (xbL l) 0).getD (false,0,())).snd.fst)) (br ((Iter (xch l) 0).isSome) (br (((Iter (xch l) 0).getD (false,0,())).fst) (κ (((Iter (xch l) 0).getD (false,0,())).snd.fst)) (κ (0))) δ)) δ
def xpy (l:LA):=xqq l none some
def xzH:EO:=xvL.f Tryz.func15 123 0 [] [(2,xiG.lp),(16,xiI.lp),(13,xqD.lp)] (lks (lkC xiG.ok (lkC xqD.ok (lkC xiI.ok lkN)))) (u1 (uL 9)) (fun (l,_) _=>xqq l) (fun _ p=>AV.int .i64 p) 0
def xiM {T:Type} (l:LA) (i k:Int) (δ:T) (κl:(Int)->T) (κr:(Bool×(Bool)×(Unit))->T):T:=br (decide (k<i)) (br (ixI l i) (br (ixS l i (Sh.int .i64) 0) (br (ixI l k) (br (ixS l k (Sh.int .i64) 0) (br ((gC l i 0).toInt==(gC l k 0).toInt) (κr (true,(false),())) (κl (i64.wrap (k+1)))) δ) δ) δ) δ) (κr (false,false,()))
def xb3 (l:LA) (i:Int):StT (Int) (Bool×(Bool)×(Unit)):=fun (k)=>xiM l i k none inL inR
def xhQ:=xzH.l 27 0 [] [] Tryz.f25 1 lk0 [0,3,4] [0,2,3] [] (q3 (qL 9) qI qI) xMi (fun (l,i,k,_) _=>(xb3 l i,(k),fun p=>(.node p.1 (.leaf .ret [AV.list 9 l,AV.bool p.2.1,AV.int .i64 i] []) (.leaf (.exit 2) [AV.list 9 l,.top,AV.int .i64 i] [])))) (false,false,()) fun (l,i,_,_) _ (k)=>(((l,i,k,()),()),xiM l i k none)
def xiL {T:Type} (l:LA) (i:Int) (δ:T) (κl:(Int)->T) (κr:(Bool×(Bool)×(Unit))->T):T:=br (decide (i<l.length)) (br ((Iter (xb3 l i) 0).isSome) (br (((Iter (xb3 l i) 0).getD (false,false,())).fst) (κr (true,(((Iter (xb3 l i) 0).getD (false,false,())).snd.fst),())) (κl (i64.wrap (i+1)))) δ) (κr (false,false,()))
def xcH (l:LA):StT (Int) (Bool×(Bool)×(Unit)):=fun (i)=>xiL l i none inL inR
def xpX:=xzH.l 27 0 [] [(5,xhQ.lp)] Tryz.f25 0 (lk1 xhQ.ok) [0,3] [2] [] (q2 (qL 9) qI) xMi (fun (l,i,_) _=>(xcH l,(i),fun p=>(.node p.1 (.leaf .ret [AV.bool p.2.1] []) (.leaf (.exit 0) [.top] [])))) (false,false,()) fun (l,_,_) _ (i)=>(((l,i,()),()),xiL l i none)
def xpk {T:Type} (l:LA) (δ:T) (κ:Bool->T):T:=br ((Iter (xcH l) 0).isSome) (br (((Iter (xcH l) 0).getD (false,false,())).fst) (κ (((Iter (xcH l) 0).getD (false,false,())).snd.fst)) (κ (true))) δ
def xom (l:LA):=xpk l none some
def xHj:EO:=xzH.f Tryz.func25 27 0 [] [(5,xhQ.lp),(2,xpX.lp)] (lks (lkC xpX.ok (lkC xhQ.ok lkN))) (u1 (uL 9)) (fun (l,_) _=>xpk l) (fun _ p=>AV.bool p) false
def xcZ (c d:Int) (g:LA) (h i b a e f:Int):Bool:=(br (xbb b a) ((a==1099511627776)) ((false)))
def xz7 {T:Type} (c d:Int) (g:LA) (h i b a e f:Int) (δ:T) (κ:Bool->T):T:=br (xbb b a) (κ (a==1099511627776)) (κ (false))
def xJR:EO:=xHj.fT Tryz.func57 12 0 [] [] lk0 (fun ((a,b,g,h,i,c,d,e,f,_),_)=>xz7 a b g h i c d e f none) (u1 (xMy (xMh uI (xMh uI (u7 (uL 3) uI uI uI uI uI uI))))) (fun ((a,b,g,h,i,c,d,e,f,_),_)=>xcZ a b g h i c d e f) (fun _ p=>(AV.bool p))
def xaP (l:LA):LA:=((l))
def xw6 {T:Type} (l:LA) (δ:T) (κ:LA->T):T:=κ (l)
def xko:EO:=xJR.fT Tryz.func37 4 0 [] [] lk0 (fun (l,_)=>xw6 l none) (u1 (uL 9)) (fun (l,_)=>xaP l) (fun _ p=>(AV.func 67 [AV.eptr 1 [AV.list 9 p] 0 0]))
end Go.Sim.M
