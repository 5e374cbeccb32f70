/- Part 13 of the proof of the law. -/
import Derived.Test.YtckgiglpmfpagaaGreatDoorQF12
import Derived.StillTailTactics
set_option linter.unusedVariables false
set_option linter.unusedSimpArgs false
set_option maxRecDepth 100000
noncomputable section
namespace Go.Sim.M
def cmpI (x y:Int):Int:=if x<y then -1 else if y<x then 1 else 0
def orI (x y:Int):Int:=if x=0 then y else x
end Go.Sim.M
namespace Go.Proofs
open Go.RowKit Go.Sim Go.Sim.M Go.Sort Go.Lib
theorem Tryz.cmp_walk (x y:Int) (w:World):Calls Tryz.prog 51 #[.int .i64 x,.int .i64 y] w fun e w'=>e=.returned (.int .i64 (cmpI x y))/\w'=w:=by
 unfold cmpI
 go_enter Tryz.func51,Tryz.ntmps51
 go_wp2
 all_goals (go_ret;exact ⟨rfl,rfl⟩)
theorem Tryz.or_walk (x y:Int) (b off c:Nat) (w:World) (h0:w.cell? ⟨b,off,none⟩=some (.int .i64 x)) (h1:w.cell? ⟨b,off+1,none⟩=some (.int .i64 y)):Calls Tryz.prog 73 #[.slice (some ⟨b,off,none⟩) 2 c] w fun e w'=>e=.returned (.int .i64 (orI x y))/\w'=w:=by
 unfold orI;by_cases hx:x=0
 . subst hx;rw [if_pos rfl];by_cases hy:y=0
   . subst hy
     go_enter Tryz.func73,Tryz.ntmps73
     go_wp2
     refine wp_loop_rounds 3 ?_;rw [rounds_succ]
     go_wp2
     rw [rounds_succ]
     go_wp2
     rw [rounds_succ]
     go_wp2
     go_ret
     exact ⟨rfl,rfl⟩
   . have hy':(y != 0)=true:=by simpa using hy
     go_enter Tryz.func73,Tryz.ntmps73
     go_wp2
     refine wp_loop_rounds 3 ?_;rw [rounds_succ]
     go_wp2
     rw [rounds_succ]
     go_wp2
     go_ret
     exact ⟨rfl,rfl⟩
 . have hx':(x != 0)=true:=by simpa using hx
   rw [if_neg hx]
   go_enter Tryz.func73,Tryz.ntmps73
   go_wp2
   refine wp_loop_rounds 3 ?_;rw [rounds_succ]
   go_wp2
   go_ret
   exact ⟨rfl,rfl⟩
theorem fill2I (u1 u2:Int):Instr.fill (fun i=>some (i*1,1)) ((Array.range (2*1)).map (fun x=>(Value.int .i64 0).cells[x % (Value.int .i64 0).cells.size]!)) [(0,.int .i64 u1),(1,.int .i64 u2)]=some #[.int .i64 u1,.int .i64 u2]:=by
 simp [Instr.fill,Array.range,Value.cells];apply Array.ext
 . simp
 . intro i h1 h2;rcases i with _|_|i
   . simp
   . simp
   . simp at h2;omega
set_option maxHeartbeats 2000000 in
theorem Tryz.levels2_walk (a b c d:Int) (w:World):Calls Tryz.prog 91 #[.agg #[.int .i64 a,.int .i64 b],.agg #[.int .i64 c,.int .i64 d]] w fun e w'=>e=.returned (.int .i64 (orI (cmpI a c) (cmpI b d)))/\∃ q J,w'=Sort.grow (w.drewN q) J:=by
 go_enter Tryz.func91,Tryz.ntmps91
 go_wp2_with (go_at_call 51;skip)
 have g0:(w.alloc (.cells #[.int .i64 a,.int .i64 b] 56)).heap[w.heap.size]?=some (.cells #[.int .i64 a,.int .i64 b] 56 (0,0)):=heap_alloc_new w _;have g1:((w.alloc (.cells #[.int .i64 a,.int .i64 b] 56)).alloc (.cells #[.int .i64 c,.int .i64 d] 56)).heap[w.heap.size+1]?=some (.cells #[.int .i64 c,.int .i64 d] 56 (0,0)):=by
  have:=heap_alloc_new (w.alloc (.cells #[.int .i64 a,.int .i64 b] 56)) (.cells #[.int .i64 c,.int .i64 d] 56);have e:(w.alloc (.cells #[.int .i64 a,.int .i64 b] 56)).heap.size=w.heap.size+1:=by simp
  rwa [e] at this
 have f0:((w.alloc (.cells #[.int .i64 a,.int .i64 b] 56)).alloc (.cells #[.int .i64 c,.int .i64 d] 56)).cell? ⟨w.heap.size,0,none⟩=some (.int .i64 a):=by
  rw [World.cell?_alloc_past _ _ _ (by simp)];simp only [World.cell?,g0];rfl
 have f1:((w.alloc (.cells #[.int .i64 a,.int .i64 b] 56)).alloc (.cells #[.int .i64 c,.int .i64 d] 56)).cell? ⟨w.heap.size,1,none⟩=some (.int .i64 b):=by
  rw [World.cell?_alloc_past _ _ _ (by simp)];simp only [World.cell?,g0];rfl
 have f2:((w.alloc (.cells #[.int .i64 a,.int .i64 b] 56)).alloc (.cells #[.int .i64 c,.int .i64 d] 56)).cell? ⟨w.heap.size+1,0,none⟩=some (.int .i64 c):=by
  simp only [World.cell?,g1];rfl
 have f3:((w.alloc (.cells #[.int .i64 a,.int .i64 b] 56)).alloc (.cells #[.int .i64 c,.int .i64 d] 56)).cell? ⟨w.heap.size+1,1,none⟩=some (.int .i64 d):=by
  simp only [World.cell?,g1];rfl
 have f4:∃ q J,((w.alloc (.cells #[.int .i64 a,.int .i64 b] 56)).alloc (.cells #[.int .i64 c,.int .i64 d] 56))=Sort.grow (w.drewN q) J:=⟨0,_,by rw [alloc_eq_grow,alloc_eq_grow,grow_grow];rfl⟩
 generalize ((w.alloc (.cells #[.int .i64 a,.int .i64 b] 56)).alloc (.cells #[.int .i64 c,.int .i64 d] 56))=W2 at f0 f1 f2 f3 f4 |-;refine wp_region_still_tail 10 (by kernel_rfl) (by kernel_rfl) ?_
 simp only [List.take_succ_cons,List.take_zero,List.drop_succ_cons,List.drop_zero];change wpStill _ _ (World.drew W2) _ _ _;have f0':W2.drew.cell? ⟨w.heap.size,0,none⟩=some (.int .i64 a):=f0;have f1':W2.drew.cell? ⟨w.heap.size,1,none⟩=some (.int .i64 b):=f1;have f2':W2.drew.cell? ⟨w.heap.size+1,0,none⟩=some (.int .i64 c):=f2;have f3':W2.drew.cell? ⟨w.heap.size+1,1,none⟩=some (.int .i64 d):=f3;have f4':∃ q J,W2.drew=Sort.grow (w.drewN q) J:=by obtain ⟨q,J,e⟩:=f4;exact ⟨q+1,J,by rw [e];rfl⟩
 iterate 4 still_step
 still_call (Tryz.cmp_walk _ _ _)
 iterate 4 still_step
 still_call (Tryz.cmp_walk _ _ _)
 refine wpStill_nil ?_;change wpList _ _ _ _ _ (World.drew W2);generalize World.drew W2=W at f0' f1' f2' f3' f4' |-;generalize O:cmpI a c=u1;generalize Q:cmpI b d=u2;obtain ⟨ie,q1,q2,q3⟩:∃ ie,Tryz.prog.info? 3=some ie/\ie.zero=some (.int .i64 0)/\ie.size=1:=⟨(Tryz.prog.info? 3).get (by kernel_rfl),(Option.some_get _).symm,by kernel_rfl,by kernel_rfl⟩
 refine wpList_buildSlice rfl 31 3 2 _ rfl #[.int .i64 u1,.int .i64 u2] ie (.int .i64 0) (by kernel_rfl) q1 q2 (by rw [q3];decide) (by rw [q3];decide) (by rw [q3];refine Eq.trans (congrArg _ ?_) (fill2I u1 u2);simp [Act.eval]) ?_
 simp only [Act.put]
 go_wp2_with fail
 have g2:(W.alloc (.cells #[.int .i64 u1,.int .i64 u2] 3)).heap[W.heap.size]?=some (.cells #[.int .i64 u1,.int .i64 u2] 3 (0,0)):=heap_alloc_new W _;refine (Tryz.or_walk u1 u2 W.heap.size 0 2 (W.alloc (.cells #[.int .i64 u1,.int .i64 u2] 3)) (by simp only [World.cell?,g2];rfl) (by simp only [World.cell?,g2];rfl)).mono ?_
 rintro e w' ⟨rfl,rfl⟩
 go_wp2
 go_ret
 obtain ⟨q,J,hq⟩:=f4';exact ⟨by rw [O,Q];rfl,q,_,by rw [hq,alloc_eq_grow,grow_grow]⟩
end Go.Proofs
namespace Go.Sim.M
abbrev TyS:Type:=Fin 1099511627777×Int
def intsS (x:TyS):List Int:=[(x.1.val:Int),x.2]
def cmpS (x y:TyS):Int:=(x.1.val:Int) - (y.1.val:Int)
end Go.Sim.M
namespace Go.Proofs
open Go.RowKit Go.Sim Go.Sim.M Go.Sort
set_option maxHeartbeats 1000000 in
theorem Tryz.walkS (a b a' b' r:Int) (hr:IntKind.i64.wrap (a - a')=r) (W:World):Calls Tryz.prog 115 #[.agg #[.int .i64 a,.int .i64 b],.agg #[.int .i64 a',.int .i64 b']] W fun e w'=>e=.returned (.int .i64 r)/\∃ q os',w'=Sort.grow (W.drewN q) os':=by
 go_enter Tryz.func115,Tryz.ntmps115
 go_wp2
 go_ret
 subst hr;exact ⟨rfl,0,_,by rw [alloc_eq_grow,alloc_eq_grow,grow_grow];rfl⟩
end Go.Proofs
namespace Go.Sim.M
open Go.RowKit Go.Proofs Go.Sort
def isS:AV->Bool
 | .agg [.int .i64 a,.int .i64 _]=>decide (0<=a)&&decide (a<=1099511627776)
 | _=>false
def decS:AV->TyS
 | .agg [.int _ a,.int _ b]=>(Fin.ofNat 1099511627777 a.toNat,b)
 | _=>default
noncomputable def srtS (xs:List AV):List AV:=(pdqL cmpS (xs.map decS)).map (encI intsS)
theorem xA1 {x:AV} (h:isS x=true):encI intsS (decS x)=x:=by
 unfold isS at h;split at h
 . rename_i a b;simp only [Bool.and_eq_true,decide_eq_true_eq] at h;have:a.toNat % 1099511627777=a.toNat:=Nat.mod_eq_of_lt (by omega)
   simp only [decS,encI,intsS,List.map_cons,List.map_nil,Fin.ofNat,this,Int.toNat_of_nonneg h.1]
 . simp at h
theorem xzG {xs:List AV} (h:xs.all isS=true):(xs.map decS).map (encI intsS)=xs:=by
 rw [List.map_map]
 conv=>rhs;rw [<-List.map_id xs]
 refine List.map_congr_left fun x hx=>?_
 exact xA1 (List.all_eq_true.1 h x hx)
theorem ltS (x y:TyS):ltOf cmpS x y=decide (x.1.val<y.1.val):=by
 unfold ltOf cmpS;by_cases h:x.1.val<y.1.val
 . rw [decide_eq_true h,decide_eq_true (by omega)]
 . rw [decide_eq_false h,decide_eq_false (by omega)]
theorem swoS:SWO (ltOf cmpS) where
 irrefl x:=by rw [ltS];simp
 trans x y z h1 h2:=by rw [ltS] at *;simp at *;omega
 ntrans x y z h1 h2:=by rw [ltS] at *;simp at *;omega
noncomputable def xth:List AV->List Box->Option (Bool×AV×List Box)
 | [.osl (.b 0) ver 0 n,.func g []],[⟨ver',2,ty,xs,false,true⟩]=>match Nat.beq g 115&&Nat.beq ty 131 with
  | true=>some (Nat.beq ver ver'&&(Nat.beq n xs.length&&(decide (n<4611686018427387904)&&xs.all isS)),.tuple [],[⟨ver',2,131,srtS xs,false,true⟩])
  | false=>none
 | _,_=>none
theorem xCT:OmOk Tryz.prog xGh 114 xth:=fun Q H r H' h=>by
 unfold xth at h;split at h
 . rename_i ver n g O ty xs;split at h
   case h_2=>simp at h
   rename_i hg;simp only [Bool.and_eq_true] at hg;obtain rfl:=Nat.eq_of_beq_eq_true hg.1;obtain rfl:=Nat.eq_of_beq_eq_true hg.2;simp only [Option.some.injEq,Prod.mk.injEq,Bool.and_eq_true,decide_eq_true_eq] at h;obtain ⟨⟨h1,h2,h3,h4⟩,rfl,rfl⟩:=h;obtain rfl:=Nat.eq_of_beq_eq_true h1;obtain rfl:=Nat.eq_of_beq_eq_true h2;have q:∃ ti,xFA Tryz.prog 131=some ti/\ti.sz=2/\ti.agg=true:=by
    have h:(match xFA Tryz.prog 131 with|some ti=>(ti.sz==2)&&ti.agg|none=>false)=true:=by kernel_rfl
    split at h
    . rename_i ti q;simp only [Bool.and_eq_true,beq_iff_eq] at h;exact ⟨ti,q,h.1,h.2⟩
    . simp at h
   obtain ⟨ti,q,hz,ha⟩:=q;have J:=xpR (P:=Tryz.prog) (Inv:=xGh) Tryz.srl114 2 (by decide) (fun w=>by rw [<-ha];exact xkP q w) (fun w=>by rw [<-hz];exact xdI q w)
    intsS (fun _=>rfl) cmpS swoS 115 (xfo Tryz.func114 rfl (by kernel_rfl)) (xkU (xfo Tryz.func115 rfl (by kernel_rfl)))
    (fun x y W=>Tryz.walkS _ _ _ _ (cmpS x y) (by
     have:=x.1.isLt;have:=y.1.isLt;unfold cmpS;exact xcv (by omega) (by omega)) W)
    ver 131 rfl (xs.map decS) (by simpa using h3)
   rw [List.length_map,xzG h4] at J;exact J
 . simp at h
end Go.Sim.M
namespace Go.Sim.M
abbrev TyP:Type:=Int×Int
def intsP (x:TyP):List Int:=[x.1,x.2]
def cmpP (x y:TyP):Int:=orI (cmpI x.1 y.1) (cmpI x.2 y.2)
end Go.Sim.M
namespace Go.Sim.M
open Go.RowKit Go.Proofs Go.Sort
def isP:AV->Bool
 | .agg [.int .i64 _,.int .i64 _]=>true
 | _=>false
def decP:AV->TyP
 | .agg [.int _ a,.int _ b]=>(a,b)
 | _=>default
noncomputable def srtP (xs:List AV):List AV:=(pdqL cmpP (xs.map decP)).map (encI intsP)
theorem xA0 {x:AV} (h:isP x=true):encI intsP (decP x)=x:=by
 unfold isP at h;split at h
 . rfl
 . simp at h
theorem xzF {xs:List AV} (h:xs.all isP=true):(xs.map decP).map (encI intsP)=xs:=by
 rw [List.map_map]
 conv=>rhs;rw [<-List.map_id xs]
 refine List.map_congr_left fun x hx=>?_
 exact xA0 (List.all_eq_true.1 h x hx)
theorem ltP (x y:TyP):ltOf cmpP x y=decide (x.1<y.1\/x.1=y.1/\x.2<y.2):=by
 unfold ltOf cmpP orI cmpI;by_cases h:x.1<y.1\/x.1=y.1/\x.2<y.2
 . rw [decide_eq_true h];simp only [decide_eq_true_eq];rcases h with h|⟨h,h'⟩
   . simp [h]
   . simp [h,h']
 . rw [decide_eq_false h];simp only [decide_eq_false_iff_not];have h1:¬ x.1<y.1:=fun e=>h (.inl e)
   by_cases h2:y.1<x.1
   . simp [h1,h2]
   . have h3:x.1=y.1:=by omega
     have h4:¬ x.2<y.2:=fun e=>h (.inr ⟨h3,e⟩)
     by_cases h5:y.2<x.2
     . simp [h1,h2,h4,h5]
     . simp [h1,h2,h4,h5]
theorem swoP:SWO (ltOf cmpP) where
 irrefl x:=by rw [ltP];simp
 trans x y z h1 h2:=by rw [ltP] at *;simp only [decide_eq_true_eq] at *;omega
 ntrans x y z h1 h2:=by rw [ltP] at *;simp only [decide_eq_true_eq,decide_eq_false_iff_not] at *;omega
noncomputable def xtg:List AV->List Box->Option (Bool×AV×List Box)
 | [.osl (.b 0) ver 0 n,.func g []],[⟨ver',2,ty,xs,false,true⟩]=>match Nat.beq g 91&&Nat.beq ty 56 with
  | true=>some (Nat.beq ver ver'&&(Nat.beq n xs.length&&(decide (n<4611686018427387904)&&xs.all isP)),.tuple [],[⟨ver',2,56,srtP xs,false,true⟩])
  | false=>none
 | _,_=>none
theorem xCS:OmOk Tryz.prog xGh 90 xtg:=fun Q H r H' h=>by
 unfold xtg at h;split at h
 . rename_i ver n g O ty xs;split at h
   case h_2=>simp at h
   rename_i hg;simp only [Bool.and_eq_true] at hg;obtain rfl:=Nat.eq_of_beq_eq_true hg.1;obtain rfl:=Nat.eq_of_beq_eq_true hg.2;simp only [Option.some.injEq,Prod.mk.injEq,Bool.and_eq_true,decide_eq_true_eq] at h;obtain ⟨⟨h1,h2,h3,h4⟩,rfl,rfl⟩:=h;obtain rfl:=Nat.eq_of_beq_eq_true h1;obtain rfl:=Nat.eq_of_beq_eq_true h2;have q:∃ ti,xFA Tryz.prog 56=some ti/\ti.sz=2/\ti.agg=true:=by
    have h:(match xFA Tryz.prog 56 with|some ti=>(ti.sz==2)&&ti.agg|none=>false)=true:=by kernel_rfl
    split at h
    . rename_i ti q;simp only [Bool.and_eq_true,beq_iff_eq] at h;exact ⟨ti,q,h.1,h.2⟩
    . simp at h
   obtain ⟨ti,q,hz,ha⟩:=q;have J:=xpR (P:=Tryz.prog) (Inv:=xGh) Tryz.srl90 2 (by decide) (fun w=>by rw [<-ha];exact xkP q w) (fun w=>by rw [<-hz];exact xdI q w)
    intsP (fun _=>rfl) cmpP swoP 91 (xfo Tryz.func90 rfl (by kernel_rfl)) (xkU (xfo Tryz.func91 rfl (by kernel_rfl)))
    (fun x y W=>Tryz.levels2_walk _ _ _ _ W)
    ver 56 rfl (xs.map decP) (by simpa using h3)
   rw [List.length_map,xzF h4] at J;exact J
 . simp at h
end Go.Sim.M
namespace Go.Sim.M
open Go.RowKit Go.Proofs
noncomputable def E1:Env:=(xBS.E.withM 114 xth).withM 90 xtg
theorem xBM:xFB Tryz.prog xGh E1:=(xBS.ok.withM xCT).withM xCS
noncomputable def xD5:EO:=EO.mk E1 xBM
end Go.Sim.M
namespace Go.Sim.M
open Go.IntKind (i64 u64 u8)
open Go.RowKit Go.Proofs
def xhI:Env:=E1.fn 29 1 (lsOf []) (xFX [])
theorem xsQ:xFB P0 (xGh.at 1) xhI:=xBM.fn
theorem xqz:LoOk P0 (xGh.at xhI.pin) xhI (Tryz.f116.body.getD .skip):=xer (by kernel_rfl)
def xnv {T:Type} (k:Nat) (a n:Int) (b:LA) (δ:T) (κ:Bool×(Nat×LA)×(Nat×LA)->T):T:=br (rmB k b 1 16) (κ (false,(0,[]),(k+1,b++[AV.agg [AV.int .i64 a,AV.int .i64 n]]))) δ
def xo1 {T:Type} (k:Nat) (b n:Int) (a:LA) (δ:T) (κ:Bool×(Nat×LA)×(Nat×LA)->T):T:=br (decide ((↑k:Int)>0)) (br (decide (0<=i64.wrap ((↑k:Int) - 1))&&decide (i64.wrap ((↑k:Int) - 1)<(↑k:Int))) (br (decide (0+(i64.wrap ((↑k:Int) - 1)).toNat<a.length)&&xFz (Sh.int .i64) ((a.getD (0+(i64.wrap ((↑k:Int) - 1)).toNat) .top).cells.getD 1 .top)) (br (((a.getD (0+(i64.wrap ((↑k:Int) - 1)).toNat) .top).cells.getD 1 .top).toInt==n) (κ (true,(k,a),(0,[]))) (xnv k b n a δ κ)) δ) δ) (xnv k b n a δ κ)
def xdj (k:Nat) (a n:Int) (b:LA):=xo1 k a n b none some
theorem xwi (k:Nat) (a n:Int) (xs:LA):Enc (fun (p:Bool×(Nat×LA)×(Nat×LA))=>((br p.1 ((AV.osl 0 0 0 p.2.1.1,([⟨0,2,131,p.2.1.2,false,true⟩]:List Box))) ((AV.osl 0 1 0 p.2.2.1,([⟨1,2,131,p.2.2.2,false,true⟩]:List Box)))):(AV×List Box))) (xdj k a n xs) (XFM P0 xhI Tryz.f116 (Tryz.f116.body.getD .skip) [AV.osl (0:Id) 0 0 k,AV.int .i64 a,AV.int .i64 n] [{ ver:=0,sz:=2,ty:=(131:TypeId),xs:=xs,frz:=false,pm:=true }]):=by
 have h:XFM P0 xhI Tryz.f116 (Tryz.f116.body.getD .skip) [AV.osl (0:Id) 0 0 k,AV.int .i64 a,AV.int .i64 n] [{ ver:=0,sz:=2,ty:=(131:TypeId),xs:=xs,frz:=false,pm:=true }]=xo1 k a n xs none (fun (p:Bool×(Nat×LA)×(Nat×LA))=>some ((br p.1 ((AV.osl 0 0 0 p.2.1.1,([⟨0,2,131,p.2.1.2,false,true⟩]:List Box))) ((AV.osl 0 1 0 p.2.2.1,([⟨1,2,131,p.2.2.2,false,true⟩]:List Box)))):(AV×List Box))):=by kernel_rfl
 rw [h];unfold xdj xo1 xnv;repeat' (first|refine Enc.br ?_ ?_|exact Enc.none|exact Enc.some rfl)
def xwh:LA->List Box->Option (Bool×AV×List Box):=omOf (xGj (sEq (xGu 0 0 0)) (xGj (sEq (pInt .i64)) (xGj (sEq (pInt .i64)) xGl))) (xGi (xGy 0 2 (131:TypeId) false true xGm) xGk) fun (k,(a,(n,_))) (b,_)=>((xdj k a n b).isSome,(AV.osl 0 1 0 (br ((xdj k a n b).getD (false,(0,[]),(0,[]))).1 ((xdj k a n b).getD (false,(0,[]),(0,[]))).2.1.1 ((xdj k a n b).getD (false,(0,[]),(0,[]))).2.2.1),([⟨1,2,131,(br ((xdj k a n b).getD (false,(0,[]),(0,[]))).1 ((xdj k a n b).getD (false,(0,[]),(0,[]))).2.1.2 ((xdj k a n b).getD (false,(0,[]),(0,[]))).2.2.2),false,true⟩]:List Box)))
theorem xwg:OmOk P0 xGh 116 (xwh):=xkM fun e f j i g=>by
 obtain ⟨k,⟨b,⟨n,_⟩⟩⟩:=e;obtain ⟨h,_⟩:=f;obtain ⟨c,a⟩:=Prod.mk.inj g;have hx:=xwi _ _ _ _ _ (xcl (d:=(false,(0,[]),(0,[]))) c);revert hx a;generalize ((xdj k b n h).getD (false,(0,[]),(0,[])))=p;intro a hx;obtain ⟨rfl,rfl⟩:=Prod.mk.inj a;obtain ⟨t,⟨l,m⟩,o,q⟩:=p;have hg:GoodM P0 xGh 116 _ _ _ _:=xfX (p:=xhI.pin) (xhL xFK (xFL P0 _) rfl xsQ rfl Tryz.func116 rfl (by kernel_rfl) xqz hx)
 cases t
 . exact hg
 . exact GoodM.bump1 rfl (by decide) hg
def xp0:EO:=xD5.wM xwg
def xke {T:Type} (d:LA) (e:Int) (b:Nat) (c:Int) (a:LA) (δ:T) (κl:(Nat×Int×LA)->T) (κr:(Nat×LA)->T):T:=br (decide (c<e)) (br (ixI d c) (br (ixT d c 3 [Sh.int .i64,Sh.int .i64,Sh.int .i64] 0) (br (xbs (gC d c 0).toInt (gC d c 1).toInt) (br (rmB b a 2 16) (κl (b+2,i64.wrap (c+1),a++[AV.agg [AV.int .i64 (gC d c 0).toInt,AV.int .i64 (gC d c 2).toInt],AV.agg [AV.int .i64 (gC d c 1).toInt,AV.int .i64 (i64.wrap (0 - (gC d c 2).toInt))]])) δ) (κl (b,i64.wrap (c+1),a))) δ) δ) (κr (b,a))
def xeB (c:LA) (d:Int):StT (Nat×Int×LA) (Nat×LA):=fun (b,e,a)=>xke c d b e a none inL inR
def xhv:=xp0.l 106 0 [] [] Tryz.f92 0 lk0 [3,10,11,12] [3] [(3,2,131)] (q4 (xGu 0 0 0) (qL 3) qI qI) (q1 (qB 0 2 131 xGm)) (fun (b,c,d,e,_) (a,_)=>(xeB c d,(b,e,a),fun p=>(.leaf (.exit 0) [AV.osl 0 0 0 p.1] [bF 0 2 131 p.2]))) (0,[]) fun (_,c,d,_,_) _ (b,e,a)=>(((b,c,d,e,()),(a,())),xke c d b e a none)
def xpd (i:Int) (a:LA):=decide (0+i.toNat<a.length)
def xpS {T:Type} (b e:Nat) (d i:Int) (a c:LA) (δ:T) (κl:(Int×Int×LA×LA)->T) (κr:(Int×Int×LA×LA)->T):T:=br (decide (i<(↑b:Int))) (br (decide (0<=i)&&decide (i<(↑b:Int))) (br (xpd i a&&xFz (Sh.int .i64) ((a.getD (0+i.toNat) .top).cells.getD 0 .top)) (br (((a.getD (0+i.toNat) .top).cells.getD 0 .top).toInt==0) (br (decide (0<=i)&&decide (i<(↑b:Int))) (br (xpd i a&&xFz (Sh.int .i64) ((a.getD (0+i.toNat) .top).cells.getD 1 .top)) (κl (i64.wrap (d+((a.getD (0+i.toNat) .top).cells.getD 1 .top).toInt),i64.wrap (i+1),a,c)) δ) δ) (κr (d,i,a,c))) δ) δ) (κr (d,i,a,c))
def xh6 (b d:Nat):StT (Int×Int×LA×LA) (Int×Int×LA×LA):=fun (e,i,a,c)=>xpS b d e i a c none inL inR
def xjy:=xp0.l 106 0 [] [(3,xhv.lp)] Tryz.f92 1 lk0 [3,6,7,8] [3,6,7,8] [(3,2,131),(6,2,131)] (q4 (xGu 0 0 0) (xGu 1 0 0) qI qI) (q2 (qB 0 2 131 xGm) (qB 0 2 131 xGm)) (fun (a,c,e,i,_) (b,d,_)=>(xh6 a c,(e,i,b,d),fun p=>(.leaf (.exit 2) [AV.osl 0 0 0 a,AV.osl 1 0 0 c,AV.int .i64 p.1,AV.int .i64 p.2.1] [bF 0 2 131 p.2.2.1,bF 0 2 131 p.2.2.2]))) (0,0,[],[]) fun (a,c,_,_,_) _ (e,i,b,d)=>(((a,c,e,i,()),(b,d,())),xpS a c e i b d none)
def xhH (i:Int) (a:LA):=decide (0+i.toNat<a.length)
def xid {T:Type} (b f:Nat) (e d i:Int) (a c:LA) (δ:T) (κl:(Int×Int×LA×LA)->T) (κr:(Int×Int×LA×LA)->T):T:=br (decide (i<(↑b:Int))) (br (decide (0<=i)&&decide (i<(↑b:Int))) (br (xhH i a&&xFz (Sh.int .i64) ((a.getD (0+i.toNat) .top).cells.getD 0 .top)) (br (((a.getD (0+i.toNat) .top).cells.getD 0 .top).toInt==e) (br (decide (0<=i)&&decide (i<(↑b:Int))) (br (xhH i a&&xFz (Sh.int .i64) ((a.getD (0+i.toNat) .top).cells.getD 1 .top)) (κl (i64.wrap (d+((a.getD (0+i.toNat) .top).cells.getD 1 .top).toInt),i64.wrap (i+1),a,c)) δ) δ) (κr (d,i,a,c))) δ) δ) (κr (d,i,a,c))
def xdL (b d:Nat) (e:Int):StT (Int×Int×LA×LA) (Int×Int×LA×LA):=fun (f,i,a,c)=>xid b d e f i a c none inL inR
def xjz:=xp0.l 106 0 [] [(3,xhv.lp),(11,xjy.lp)] Tryz.f92 3 lk0 [3,6,7,8,9] [3,6,7,8,9] [(3,2,131),(6,2,131)] (q5 (xGu 0 0 0) (xGu 1 0 0) qI qI qI) (q2 (qB 0 2 131 xGm) (qB 0 2 131 xGm)) (fun (a,c,f,i,e,_) (b,d,_)=>(xdL a c e,(f,i,b,d),fun p=>(.leaf (.exit 6) [AV.osl 0 0 0 a,AV.osl 1 0 0 c,AV.int .i64 p.1,AV.int .i64 p.2.1,AV.int .i64 e] [bF 0 2 131 p.2.2.1,bF 0 2 131 p.2.2.2]))) (0,0,[],[]) fun (a,c,_,_,e,_) _ (f,i,b,d)=>(((a,c,f,i,e,()),(b,d,())),xid a c e f i b d none)
def xgr (i:Int) (a:LA):=decide (0+i.toNat<a.length)&&xFz (Sh.int .i64) ((a.getD (0+i.toNat) .top).cells.getD 0 .top)
def xeY (i:Int) (a:LA):=((a.getD (0+i.toNat) .top).cells.getD 0 .top).toInt
def xgs (b d:Nat) (e i:Int) (a c:LA):=Iter (xdL b d (xeY i a)) (e,i,a,c)
def xhG (b d:Nat) (e i:Int) (a c:LA):=(xgs b d e i a c).getD (0,0,[],[])
def xhE (b d:Nat) (e i:Int) (a c:LA):=(xhG b d e i a c).snd
def xhF (b d:Nat) (e i:Int) (a c:LA):=(xhG b d e i a c).fst
def xhD (b d:Nat) (e i:Int) (a c:LA):=(xhE b d e i a c).snd
def xhC (b c:Nat) (e i:Int) (a d:LA):=xdj c (xeY i a) (xhF b c e i a d) (xhD b c e i a d).snd
def xhB (b d:Nat) (e i:Int) (a c:LA):=(xhC b d e i a c).getD (false,(0,[]),0,[])
def xhz (b d:Nat) (e i:Int) (a c:LA):=(xhB b d e i a c).fst
def xhA (b d:Nat) (e i:Int) (a c:LA):=(xhB b d e i a c).snd
def xhw (b d:Nat) (e i:Int) (a c:LA):=(xhA b d e i a c).fst
def xhy (b d:Nat) (e i:Int) (a c:LA):=(xhA b d e i a c).snd
def xic {T:Type} (b d:Nat) (e i:Int) (a c:LA) (δ:T) (κl:(Nat×Int×Int×LA×LA)->T) (κr:(Nat×LA)->T):T:=br (decide (i<(↑b:Int))) (br (decide (0<=i)&&decide (i<(↑b:Int))) (br (xgr i a) (br (decide (xeY i a<1099511627776)) (br (decide (0<=i)&&decide (i<(↑b:Int))) (br (xgr i a) (br ((xgs b d e i a c).isSome) (br ((xhC b d e i a c).isSome) (κl (br (xhz b d e i a c) (xhw b d e i a c).fst (xhy b d e i a c).fst,xhF b d e i a c,(xhE b d e i a c).fst,(xhD b d e i a c).fst,br (xhz b d e i a c) (xhw b d e i a c).snd (xhy b d e i a c).snd)) δ) δ) δ) δ) (κr (d,c))) δ) δ) (κr (d,c))
def xeC (b:Nat):StT (Nat×Int×Int×LA×LA) (Nat×LA):=fun (d,e,i,a,c)=>xic b d e i a c none inL inR
def xpe:=xp0.l 106 0 [] [(3,xhv.lp),(11,xjy.lp),(17,xjz.lp)] Tryz.f92 2 (lk1 xjz.ok) [3,6,7,8] [6] [(3,2,131),(6,2,131)] (q4 (xGu 0 0 0) (xGu 1 0 0) qI qI) (q2 (qB 0 2 131 xGm) (qB 0 2 131 xGm)) (fun (b,d,e,i,_) (a,c,_)=>(xeC b,(d,e,i,a,c),fun p=>(.leaf (.exit 4) [AV.osl 0 0 0 p.1] [bF 0 2 131 p.2]))) (0,[]) fun (b,_,_,_,_) _ (d,e,i,a,c)=>(((b,d,e,i,()),(a,c,())),xic b d e i a c none)
def xoj (l:LA):=(Iter (xeB l (↑l.length:Int)) (0,0,[])).getD (0,[])
def xjc (l:LA):=(xoj l).fst
def xlX (l:LA):=(xoj l).snd
def xoi (l:LA):=Iter (xh6 (xjc l) 0) (0,0,srtS (xlX l),[])
def xoh (l:LA):=(xoi l).getD (0,0,[],[])
def xof (l:LA):=(xoh l).snd
def xog (l:LA):=(xoh l).fst
def xoe (l:LA):=(xof l).snd
def xo0 (l:LA):=xdj 0 0 (xog l) (xoe l).snd
def xox (l:LA):=(xo0 l).getD (false,(0,[]),0,[])
def xoY (l:LA):=(xox l).fst
def xoZ (l:LA):=(xox l).snd
def xoW (l:LA):=(xoZ l).fst
def xoX (l:LA):=(xoZ l).snd
def xoV (l:LA):=Iter (xeC (xjc l)) (br (xoY l) (xoW l).fst (xoX l).fst,xog l,(xof l).fst,(xoe l).fst,br (xoY l) (xoW l).snd (xoX l).snd)
def xoU (l:LA):=(xoV l).getD (0,[])
def xoS (l:LA):=(xoU l).snd
def xoT (l:LA):=(xoU l).fst
def xpF {T:Type} (l:LA) (δ:T) (κ:LA->T):T:=br ((Iter (xeB l (↑l.length:Int)) (0,0,[])).isSome) (br ((xjc l).beq (xlX l).length&&(decide (xjc l<4611686018427387904)&&(xlX l).all isS)) (br ((xoi l).isSome) (br ((xo0 l).isSome) (br ((xoV l).isSome) (br (decide (0+xoT l<=(xoS l).length)&&true) (κ (List.take (xoT l) (List.drop 0 (xoS l)))) δ) δ) δ) δ) δ) δ
def xpE (l:LA):=xpF l none some
def xzg:EO:=xp0.f Tryz.func92 106 0 [] [(3,xhv.lp),(11,xjy.lp),(17,xjz.lp),(15,xpe.lp)] (lks (lkC xhv.ok (lkC xjy.ok (lkC xpe.ok (lkC xjz.ok lkN))))) (u1 (uL 3)) (fun (l,_) _=>xpF l) (fun _ p=>AV.list 2 p) []
def xeO {T:Type} (d:LA) (e:Int) (c:Nat) (b:Int) (a:LA) (δ:T) (κl:(Nat×Int×LA)->T) (κr:(Nat×LA)->T):T:=br (decide (b<e)) (br (ixI d b) (br (ixT d b 2 [Sh.int .i64,Sh.int .i64] 0) (br (rmB c a 1 24) (κl (c+1,i64.wrap (b+1),a++[AV.agg [AV.int .i64 (gC d b 0).toInt,AV.int .i64 (gC d b 1).toInt,AV.int .i64 1]])) δ) δ) δ) (κr (c,a))
def xbY (c:LA) (d:Int):StT (Nat×Int×LA) (Nat×LA):=fun (b,e,a)=>xeO c d b e a none inL inR
def xjM:=xzg.l 20 0 [] [] Tryz.f71 0 lk0 [3,6,7,8] [3] [(3,3,136)] (q4 (xGu 0 0 0) (qL 2) qI qI) (q1 (qB 0 3 136 xGm)) (fun (b,c,d,e,_) (a,_)=>(xbY c d,(b,e,a),fun p=>(.leaf (.exit 0) [AV.osl 0 0 0 p.1] [bF 0 3 136 p.2]))) (0,[]) fun (_,c,d,_,_) _ (b,e,a)=>(((b,c,d,e,()),(a,())),xeO c d b e a none)
def xin (l:LA):=(Iter (xbY l (↑l.length:Int)) (0,0,[])).getD (0,[])
def xil (l:LA):=(xin l).fst
def xim (l:LA):=(xin l).snd
def xik (l:LA):=xpE (List.take (xil l) (List.drop 0 (xim l)))
def xiz {T:Type} (l:LA) (δ:T) (κ:LA->T):T:=br ((Iter (xbY l (↑l.length:Int)) (0,0,[])).isSome) (br (decide (0+xil l<=(xim l).length)&&true) (br ((xik l).isSome) (κ ((xik l).getD [])) δ) δ) δ
def xel (l:LA):=xiz l none some
def xo2:EO:=xzg.f Tryz.func71 20 0 [] [(3,xjM.lp)] (lk1 xjM.ok) (u1 (uL 2)) (fun (l,_) _=>xiz l) (fun _ p=>AV.list 2 p) []
def xiq {T:Type} (o n:Int) (e f:Nat) (k p m j:Int) (h l i g a:Nat) (b:LA) (d:Nat) (c:LA) (δ:T) (κl:(Int×Int×Nat×Nat×Nat×Nat×Nat×LA×Nat×LA)->T) (κr:(Int×Nat×Nat×Nat×Nat×LA×Nat×LA×Nat)->T):T:=br (decide (m<p)) (br (a==e) (br (a==e) (br (a==e&&(decide (f<b.length)&&xFz (Sh.int .i64) ((b.getD f .top).cells.getD 0 .top))) (br (d==g&&(rmB i c 1 16)) (κl (i64.wrap (m+1),j,h,l,i+1,g+1,a,List.take h b,g+1,c++[AV.agg [AV.int .i64 ((b.getD f .top).cells.getD 0 .top).toInt,AV.int .i64 o]])) δ) δ) δ) δ) (κr (j,l,h,g,i,b,a,c,d))
def xcM (m n:Int) (e f:Nat) (k o:Int):StT (Int×Int×Nat×Nat×Nat×Nat×Nat×LA×Nat×LA) (Int×Nat×Nat×Nat×Nat×LA×Nat×LA×Nat):=fun (p,g,h,i,j,l,a,b,c,d)=>xiq m n e f k o p g h i j l a b c d none inL inR
def xhZ:=xo2.l 71 5 [] [] Tryz.f89 1 lk0 [0,1,2,3,4,7,8,37,38] [0,1,2,3,4,7,8] [(3,0,0)] (q9 qI qI (xGv 0 0 0 0) (xGv 1 0 0 0) (xGv 2 0 0 0) (pOwnV 3 0) qI qI qI) (q5 (qB 0 1 3 (q1 qI)) (xGy 0 1 125 false false (q1 (pOslV 3 0))) (xGy 0 1 97 false false (q1 (pOslV 4 0))) (pBoxV 2 127 false true xGm) (pBoxV 2 56 false true xGm)) (fun (o,n,_,_,_,(e,f),k,q,r,_) ((g,_),((h,i),_),((j,m),_),(a,b),(c,d),_)=>(xcM o n e f k q,(r,g,i,h,m,j,a,b,c,d),fun p=>(.leaf (.exit 2) [AV.int .i64 o,AV.int .i64 n,AV.own 0 0 0 0,AV.own 1 0 0 0,AV.own 2 0 0 0,AV.own 3 e f 0,AV.int .i64 k] [bF 0 1 3 [AV.int .i64 p.1],⟨0,1,125,[AV.osl 3 p.2.1 0 p.2.2.1],false,false⟩,⟨0,1,97,[AV.osl 4 p.2.2.2.1 0 p.2.2.2.2.1],false,false⟩,bF p.2.2.2.2.2.2.1 2 127 p.2.2.2.2.2.1,bF p.2.2.2.2.2.2.2.2 2 56 p.2.2.2.2.2.2.2.1]))) (0,0,0,0,0,[],0,[],0) fun (o,n,_,_,_,(e,f),k,q,_,_) _ (r,g,i,h,m,j,a,b,c,d)=>(((o,n,(),(),(),(e,f),k,q,r,()),((g,()),((h,i),()),((j,m),()),(a,b),(c,d),())),xiq o n e f k q r g i h m j a b c d none)
def xa2 (a:Nat):Nat:=0+(i64.wrap ((↑a:Int) - 1)).toNat
def xdg (n b:Int) (c d:Nat) (a:LA):Int:=if i64.wrap (b - n)<((a.getD (xa2 c) .top).cells.getD 1 .top).toInt then i64.wrap (b - n) else ((a.getD (xa2 c) .top).cells.getD 1 .top).toInt
def xgR (j n d:Int) (c g h i a:Nat) (b:LA) (e:Nat) (f:LA):=Iter (xcM j n g (xa2 c) (xdg n d c a b) (xdg n d c a b)) (0,d,c,g,h,i,a,List.take c b,e,f)
def xe2 (j n e:Int) (f g h i a:Nat) (b:LA) (c:Nat) (d:LA):=(xgR j n e f g h i a b c d).getD (0,0,0,0,0,[],0,[],0)
def xgQ (j n e:Int) (f g h i a:Nat) (b:LA) (c:Nat) (d:LA):=(xe2 j n e f g h i a b c d).snd
def xep (j n e:Int) (f g h i a:Nat) (b:LA) (c:Nat) (d:LA):=(xgQ j n e f g h i a b c d).fst
def xgP (j n e:Int) (f g h i a:Nat) (b:LA) (c:Nat) (d:LA):=(xgQ j n e f g h i a b c d).snd
def xeo (j n e:Int) (f g h i a:Nat) (b:LA) (c:Nat) (d:LA):=(xgP j n e f g h i a b c d).fst
def xe1 (j n e:Int) (f g h i a:Nat) (b:LA) (c:Nat) (d:LA):=(xgP j n e f g h i a b c d).snd
def xen (j n e:Int) (f g h i a:Nat) (b:LA) (c:Nat) (d:LA):=i64.wrap ((↑(xeo j n e f g h i a b c d):Int) - 1)
def xe0 (j n e:Int) (f g h i a:Nat) (b:LA) (c:Nat) (d:LA):=(xe1 j n e f g h i a b c d).snd
def xgO (j n e:Int) (f g h i a:Nat) (b:LA) (c:Nat) (d:LA):=(xe0 j n e f g h i a b c d).snd
def xfw (j n e:Int) (f g h i a:Nat) (b:LA) (c:Nat) (d:LA):=(xgO j n e f g h i a b c d).fst
def xhY (j n e:Int) (f g h i a:Nat) (b:LA) (c:Nat) (d:LA):=(xgO j n e f g h i a b c d).snd
def xcL (j n f:Int) (g e h i a:Nat) (b:LA) (c:Nat) (d:LA):=(xhY j n f g e h i a b c d).fst==e
def xhX (j n f:Int) (e g h i a:Nat) (b:LA) (c:Nat) (d:LA):=decide (xa2 e<(xfw j n f e g h i a b c d).length)
def xem (j n f:Int) (e g h i a:Nat) (b:LA) (c:Nat) (d:LA):=((xfw j n f e g h i a b c d).getD (xa2 e) .top).cells
def xeq (j n e:Int) (f g h i a:Nat) (b:LA) (c:Nat) (d:LA):=(xhY j n e f g h i a b c d).snd
def xdG (j n f:Int) (e g h i a:Nat) (b:LA) (c:Nat) (d:LA):=(xfw j n f e g h i a b c d).set (xa2 e) (AV.agg (List.take 1 (xem j n f e g h i a b c d)++[AV.int .i64 (i64.wrap (((xem j n f e g h i a b c d).getD 1 .top).toInt - xdg n f e a b))]++List.drop 2 (xem j n f e g h i a b c d)))
def xeP {T:Type} (j n g:Int) (f e h i a:Nat) (b:LA) (c:Nat) (d:LA) (δ:T) (κl:(Int×Nat×Nat×Nat×Nat×Nat×LA×Nat×LA)->T) (κr:(Int×Nat×Nat×Nat×Nat×LA×Nat×LA×Nat)->T):T:=br (decide (g>n)) (br (a==e) (br (a==e&&(decide (0<=i64.wrap ((↑f:Int) - 1))&&decide (i64.wrap ((↑f:Int) - 1)<(↑f:Int)))) (br (a==e) (br (a==e) (br (a==e&&(decide (xa2 f<b.length)&&xFz (Sh.int .i64) ((b.getD (xa2 f) .top).cells.getD 1 .top))) (br ((xgR j n g f e h i a b c d).isSome) (br (xcL j n g f e h i a b c d) (br (xcL j n g f e h i a b c d) (br (xcL j n g f e h i a b c d&&(xhX j n g f e h i a b c d&&xFz (Sh.int .i64) ((xem j n g f e h i a b c d).getD 1 .top))) (br (xcL j n g f e h i a b c d) (br (xcL j n g f e h i a b c d) (br (xcL j n g f e h i a b c d&&xhX j n g f e h i a b c d) (br (e==e) (br (e==e) (br (e==e&&(decide (xa2 f<(xdG j n g f e h i a b c d).length)&&xFz (Sh.int .i64) (((xdG j n g f e h i a b c d).getD (xa2 f) .top).cells.getD 1 .top))) (br ((((xdG j n g f e h i a b c d).getD (xa2 f) .top).cells.getD 1 .top).toInt==0) (br (e==xep j n g f e h i a b c d) (br (e==xep j n g f e h i a b c d&&(decide (0<=xen j n g f e h i a b c d)&&decide (xen j n g f e h i a b c d<=(↑(xeo j n g f e h i a b c d):Int))&&true)) (κl (i64.wrap ((xe2 j n g f e h i a b c d).fst - xdg n g f a b),(xen j n g f e h i a b c d).toNat - 0,xep j n g f e h i a b c d,(xe0 j n g f e h i a b c d).fst,(xe1 j n g f e h i a b c d).fst,e,List.take ((xen j n g f e h i a b c d).toNat - 0) (xdG j n g f e h i a b c d),(xeq j n g f e h i a b c d).snd,(xeq j n g f e h i a b c d).fst)) δ) δ) (κl (i64.wrap ((xe2 j n g f e h i a b c d).fst - xdg n g f a b),xeo j n g f e h i a b c d,xep j n g f e h i a b c d,(xe0 j n g f e h i a b c d).fst,(xe1 j n g f e h i a b c d).fst,e,List.take (xeo j n g f e h i a b c d) (xdG j n g f e h i a b c d),(xeq j n g f e h i a b c d).snd,(xeq j n g f e h i a b c d).fst))) δ) δ) δ) δ) δ) δ) δ) δ) δ) δ) δ) δ) δ) δ) δ) (κr (g,e,f,i,h,b,a,d,c))
def xb4 (j n:Int):StT (Int×Nat×Nat×Nat×Nat×Nat×LA×Nat×LA) (Int×Nat×Nat×Nat×Nat×LA×Nat×LA×Nat):=fun (e,f,g,h,i,a,b,c,d)=>xeP j n e f g h i a b c d none inL inR
def xnY:=xo2.l 71 5 [] [(7,xhZ.lp)] Tryz.f89 0 (lk1 xhZ.ok) [0,1,2,3,4] [] [(3,0,0)] (q5 qI qI (xGv 0 0 0 0) (xGv 1 0 0 0) (xGv 2 0 0 0)) (q5 (qB 0 1 3 (q1 qI)) (xGy 0 1 125 false false (q1 (pOslV 3 0))) (xGy 0 1 97 false false (q1 (pOslV 4 0))) (pBoxV 2 127 false true xGm) (pBoxV 2 56 false true xGm)) (fun (j,n,_,_,_,_) ((e,_),((f,g),_),((h,i),_),(a,b),(c,d),_)=>(xb4 j n,(e,g,f,i,h,a,b,c,d),fun p=>(.leaf (.exit 0) [] [bF 0 1 3 [AV.int .i64 p.1],⟨0,1,125,[AV.osl 3 p.2.1 0 p.2.2.1],false,false⟩,⟨0,1,97,[AV.osl 4 p.2.2.2.1 0 p.2.2.2.2.1],false,false⟩,bF p.2.2.2.2.2.2.1 2 127 p.2.2.2.2.2.1,bF p.2.2.2.2.2.2.2.2 2 56 p.2.2.2.2.2.2.2.1]))) (0,0,0,0,0,[],0,[],0) fun (j,n,_,_,_,_) _ (e,g,f,i,h,a,b,c,d)=>(((j,n,(),(),(),()),((e,()),((f,g),()),((h,i),()),(a,b),(c,d),())),xeP j n e g f i h a b c d none)
def xfR:Env:=xo2.E.fn 71 5 (lsOf []) (xFX [(7,xhZ.lp),(3,xnY.lp)])
theorem xrF:xFB P0 (xGh.at 5) xfR:=xo2.ok.fn
theorem xqj:LoOk P0 (xGh.at xfR.pin) xfR (Tryz.f89.body.getD .skip):=xkr (ls:=[xFF Tryz.f89 0,xFF Tryz.f89 1]) (by kernel_rfl) (lkC xnY.ok (lkC xhZ.ok lkN))
def xjo (a n h:Int) (b c:Nat) (d e:LA):=Iter (xb4 a n) (n,b+1,1,c,0,1,List.take (b+1) (d++[AV.agg [AV.int .i64 a,AV.int .i64 (i64.wrap (n - h))]]),0,e)
def xjp (a n h:Int) (b c:Nat) (d e:LA):=Iter (xb4 a n) (h,b,0,c,0,0,List.take b d,0,e)
def xjj (a n h:Int) (b c:Nat) (d e:LA):=(xjo a n h b c d e).getD (0,0,0,0,0,[],0,[],0)
def xjn (a n h:Int) (b c:Nat) (d e:LA):=(xjp a n h b c d e).getD (0,0,0,0,0,[],0,[],0)
def xj5 (a n h:Int) (b c:Nat) (d e:LA):=(xjj a n h b c d e).snd
def xjm (a n h:Int) (b c:Nat) (d e:LA):=(xjn a n h b c d e).snd
def xj2 (a n h:Int) (b c:Nat) (d e:LA):=(xj5 a n h b c d e).snd
def xjl (a n h:Int) (b c:Nat) (d e:LA):=(xjm a n h b c d e).snd
def xj1 (a n h:Int) (b c:Nat) (d e:LA):=(xj2 a n h b c d e).snd
def xjk (a n h:Int) (b c:Nat) (d e:LA):=(xjl a n h b c d e).snd
def xj0 (a n h:Int) (b c:Nat) (d e:LA):=(xj1 a n h b c d e).snd
def xji (a n h:Int) (b c:Nat) (d e:LA):=(xjk a n h b c d e).snd
def xjx (a n h:Int) (b c:Nat) (d e:LA):=(xj0 a n h b c d e).snd
def xj6 (a n h:Int) (b c:Nat) (d e:LA):=(xji a n h b c d e).snd
def xjZ (a n h:Int) (b c:Nat) (d e:LA):=(xjx a n h b c d e).snd
def xj4 (a n h:Int) (b c:Nat) (d e:LA):=(xj6 a n h b c d e).snd
def xjY (a n h:Int) (b c:Nat) (d e:LA):=(xjZ a n h b c d e).snd
def xj3 (a n h:Int) (b c:Nat) (d e:LA):=(xj4 a n h b c d e).snd
def xiN {T:Type} (a n h:Int) (b d:Nat) (c e:LA) (δ:T) (κ:Int×Nat×Nat×Nat×Nat×LA×Nat×LA×Nat->T):T:=br (decide (n>h)) (br (rmB b c 1 16) (br ((xjo a n h b d c e).isSome) (κ ((xjj a n h b d c e).fst,(xj5 a n h b d c e).fst,(xj2 a n h b d c e).fst,(xj1 a n h b d c e).fst,(xj0 a n h b d c e).fst,(xjx a n h b d c e).fst,(xjZ a n h b d c e).fst,(xjY a n h b d c e).fst,(xjY a n h b d c e).snd)) δ) δ) (br ((xjp a n h b d c e).isSome) (κ ((xjn a n h b d c e).fst,(xjm a n h b d c e).fst,(xjl a n h b d c e).fst,(xjk a n h b d c e).fst,(xji a n h b d c e).fst,(xj6 a n h b d c e).fst,(xj4 a n h b d c e).fst,(xj3 a n h b d c e).fst,(xj3 a n h b d c e).snd)) δ)
def xjh (a n h:Int) (b c:Nat) (d e:LA):=xiN a n h b c d e none some
theorem xu5 (a n h:Int) (b c:Nat) (d e:LA):Enc (fun (p:Int×Nat×Nat×Nat×Nat×LA×Nat×LA×Nat)=>(((AV.tuple [],([⟨0,1,3,[AV.int .i64 p.1],false,true⟩,⟨0,1,125,[AV.osl 3 p.2.1 0 p.2.2.1],false,false⟩,⟨0,1,97,[AV.osl 4 p.2.2.2.1 0 p.2.2.2.2.1],false,false⟩,⟨p.2.2.2.2.2.2.1,2,127,p.2.2.2.2.2.1,false,true⟩,⟨p.2.2.2.2.2.2.2.2,2,56,p.2.2.2.2.2.2.2.1,false,true⟩]:List Box))):(AV×List Box))) (xjh a n h b c d e) (XFM P0 xfR Tryz.f89 (Tryz.f89.body.getD .skip) [AV.int .i64 a,AV.int .i64 n,AV.own (0:Id) 0 0 0,AV.own (1:Id) 0 0 0,AV.own (2:Id) 0 0 0] [{ ver:=0,sz:=1,ty:=(3:TypeId),xs:=[AV.int .i64 h],frz:=false,pm:=true },{ ver:=0,sz:=1,ty:=(125:TypeId),xs:=[AV.osl (3:Id) 0 0 b],frz:=false,pm:=false },{ ver:=0,sz:=1,ty:=(97:TypeId),xs:=[AV.osl (4:Id) 0 0 c],frz:=false,pm:=false },{ ver:=0,sz:=2,ty:=(127:TypeId),xs:=d,frz:=false,pm:=true },{ ver:=0,sz:=2,ty:=(56:TypeId),xs:=e,frz:=false,pm:=true }]):=by
 have h:XFM P0 xfR Tryz.f89 (Tryz.f89.body.getD .skip) [AV.int .i64 a,AV.int .i64 n,AV.own (0:Id) 0 0 0,AV.own (1:Id) 0 0 0,AV.own (2:Id) 0 0 0] [{ ver:=0,sz:=1,ty:=(3:TypeId),xs:=[AV.int .i64 h],frz:=false,pm:=true },{ ver:=0,sz:=1,ty:=(125:TypeId),xs:=[AV.osl (3:Id) 0 0 b],frz:=false,pm:=false },{ ver:=0,sz:=1,ty:=(97:TypeId),xs:=[AV.osl (4:Id) 0 0 c],frz:=false,pm:=false },{ ver:=0,sz:=2,ty:=(127:TypeId),xs:=d,frz:=false,pm:=true },{ ver:=0,sz:=2,ty:=(56:TypeId),xs:=e,frz:=false,pm:=true }]=xiN a n h b c d e none (fun (p:Int×Nat×Nat×Nat×Nat×LA×Nat×LA×Nat)=>some (((AV.tuple [],([⟨0,1,3,[AV.int .i64 p.1],false,true⟩,⟨0,1,125,[AV.osl 3 p.2.1 0 p.2.2.1],false,false⟩,⟨0,1,97,[AV.osl 4 p.2.2.2.1 0 p.2.2.2.2.1],false,false⟩,⟨p.2.2.2.2.2.2.1,2,127,p.2.2.2.2.2.1,false,true⟩,⟨p.2.2.2.2.2.2.2.2,2,56,p.2.2.2.2.2.2.2.1,false,true⟩]:List Box))):(AV×List Box))):=by kernel_rfl
 rw [h];unfold xjh xiN;repeat' (first|refine Enc.br ?_ ?_|exact Enc.none|exact Enc.some rfl)
end Go.Sim.M
namespace Go.Sim
open Go.RowKit
theorem GoodM.aged {P:Program} {Inv:IV} {f:FuncId} {args:List AV} {H E:List Box} {p q v k t s y:Nat} {xs:List AV}
  (h:GoodM P Inv f args H (.tuple []) E) (hz:∀ bx,H[q]?=some bx->bx.ver=0)
  (ep:E[p]?=some ⟨0,1,t,[.osl (.b q) v 0 k],false,false⟩) (eq:E[q]?=some ⟨v,s,y,xs,false,true⟩) (pt:isC t=false) (py:isC y=false)
  (ho:∀ n bx,E[n]?=some bx->isC bx.ty=false/\(n=p\/n=q\/bx.pm=true\/∃ n' v' k',n'≠q/\bx.xs=[.osl (.b n') v' 0 k'])) :
  GoodM P Inv f args H (.tuple []) ((E.set p ⟨0,1,t,[.osl (.b q) 1 0 k],false,false⟩).set q ⟨1,s,y,xs,false,true⟩):=by
 have pq:p≠q:=fun e=>by
  subst e;rw [ep] at eq;simp at eq
 refine ⟨h.1,fun w0 w A M vs hI hB hR Y=>(h.2 w0 w A M vs hI hB hR Y).mono ?_⟩
 rintro e w' ⟨u,A',M',rfl,h1,h2,h3,h4,h5⟩;let M'':Id->Option MB:=fun id=>if id=.b q then (M' id).map fun m=>⟨m.b,1,m.sz,m.cap,m.ty⟩ else M' id
 have eo:∀ id,id≠.b q->M'' id=M' id:=fun id g1=>if_neg g1
 have e4:∀ m,M' (.b q)=some m->M'' (.b q)=some ⟨m.b,1,m.sz,m.cap,m.ty⟩:=fun m hm=>(if_pos rfl).trans (by rw [hm];rfl)
 have Q:∀ id m1,M'' id=some m1->∃ m0,M' id=some m0/\m1.b=m0.b/\m1.cap=m0.cap:=fun id m1 J=>by
  by_cases g3:id=.b q
  . subst g3;cases hm:M' (.b q) with
    | none=>simp [M'',hm] at J
    | some m=>rw [e4 m hm] at J;simp only [z6] at J;subst J;exact ⟨m,rfl,rfl,rfl⟩
  . exact ⟨m1,eo id g3▸J,rfl,rfl⟩
 have O:∀ n bx m,E[n]?=some bx->M' (.b n)=some m->BoxAt w' A' M' w0.heap.size (.b n) m bx:=fun n bx m hn hm=>by
  obtain ⟨bx',g1,g2⟩:=h4.box _ m hm;rw [xbG,hn] at g1;cases g1;exact g2
 have hv:∀ m,M' (.b q)=some m->v=m.ver:=fun m hm=>(O q _ m eq hm).ver
 have hx:∀ c n' v' k',n'≠q->Rel w' A' M' c (.osl (.b n') v' 0 k')->Rel w' A' M'' c (.osl (.b n') v' 0 k'):=fun c n' v' k' hn hr=>by
  obtain ⟨m0,g1,g2,g3,g4⟩:=Rel.osl_inv hr;exact .osl c _ v' 0 k' m0 ((eo _ fun e=>hn (by cases e;rfl)).trans g1) g2 g3 g4
 have hy:∀ c,Rel w' A' M' c (.osl (.b q) v 0 k)->Rel w' A' M'' c (.osl (.b q) 1 0 k):=fun c hr=>by
  obtain ⟨m0,g1,g2,g3,g4⟩:=Rel.osl_inv hr;exact .osl c _ 1 0 k _ (e4 m0 g1) (zd _) g3 fun _=>g4 (hv m0 g1)
 have hb:∀ id (bx bx':Box) (m m':MB),isC bx.ty=false->bx'=⟨m'.ver,bx.sz,bx.ty,bx'.xs,bx.frz,bx.pm⟩->m'=⟨m.b,m'.ver,m.sz,m.cap,m.ty⟩->bx'.xs.length=bx.xs.length->(∀ x,x∈bx'.xs->x.okElem m.sz=true) ->
   (∀ c i j,Rel w' A' (MP M' bx.pm) c ((bx.xs.getD i .top).cells.getD j .top)->Rel w' A' (MP M'' bx.pm) c ((bx'.xs.getD i .top).cells.getD j .top))->BoxAt w' A' M' w0.heap.size id m bx->BoxAt w' A' M'' w0.heap.size id m' bx':=fun id bx bx' m m' U ab aa hl Z hc g=>by
  rw [ab,aa];have V:xFD m.ty=false:=g.nomap (xa9 U);refine ⟨rfl,g.sz,g.ty,g.capm,hl▸g.fits,Z,g.low,g.lt,fun h0=>?_,g.guard⟩
  obtain ⟨c,c1,c2,c3⟩:=g.cells h0;refine ⟨c,.of V (c1.plain V),c2,fun i j hi hj=>?_⟩
  have:=c3 i j (hl▸hi) hj;rw [xaS U,xbk U] at this;rw [xaS U,xbk (bx:=⟨m'.ver,bx.sz,bx.ty,bx'.xs,bx.frz,bx.pm⟩) U];exact hc _ i j this
 have ht:∀ a v1 v2 d,(∀ c,Rel w' A' M' c (.osl a v1 0 d)->Rel w' A' M'' c (.osl a v2 0 d))->∀ c i j,Rel w' A' M' c ((([.osl a v1 0 d]:List AV).getD i .top).cells.getD j .top)->Rel w' A' M'' c ((([.osl a v2 0 d]:List AV).getD i .top).cells.getD j .top):=fun a v1 v2 d hh c i j hr=>by
  match i,j with
  | 0,0=>exact hh c hr
  | 0,j+1=>exact .top _
  | i+1,0=>exact .top _
  | i+1,j+1=>exact .top _
 have hg:∀ n bx,E[n]?=some bx->∃ bx',((E.set p ⟨0,1,t,[.osl (.b q) 1 0 k],false,false⟩).set q ⟨1,s,y,xs,false,true⟩)[n]?=some bx'/\isC bx'.ty=false/\(∀ m m1,M' (.b n)=some m->M'' (.b n)=some m1->BoxAt w' A' M'' w0.heap.size (.b n) m1 bx'):=fun n bx hn=>by
  have hn':=xcK hn;obtain ⟨hC,hc⟩:=ho n bx hn;by_cases g1:n=q
  . subst g1;rw [hn] at eq;cases eq;refine ⟨_,zL (by simpa using hn'),py,fun m m1 e1 e2=>?_⟩
    rw [e4 m e1] at e2;cases e2;have g:=O n _ m hn e1;exact hb _ ⟨v,s,y,xs,false,true⟩ ⟨1,s,y,xs,false,true⟩ m _ py rfl rfl rfl g.ok (fun c i j hr=>hr) g
  . have ge:∀ m m1,M' (.b n)=some m->M'' (.b n)=some m1->m1=m:=fun m m1 e1 e2=>by
     rw [eo _ fun e=>g1 (by cases e;rfl),e1] at e2;cases e2;rfl
    by_cases g2:n=p
    . subst g2;rw [hn] at ep;cases ep;refine ⟨_,(zX (Ne.symm g1)).trans (zL hn'),pt,fun m m1 e1 e2=>?_⟩
      cases ge m m1 e1 e2;have g:=O n _ m hn e1;have hv:0=m.ver:=g.ver;have hz:m.sz=1:=g.sz.symm;exact hb _ ⟨0,1,t,[.osl (.b q) v 0 k],false,false⟩ ⟨0,1,t,[.osl (.b q) 1 0 k],false,false⟩ m m pt (by rw [<-hv]) rfl rfl (fun x hx=>by simp only [zv] at hx;subst hx;rw [hz];rfl) (ht _ _ _ _ hy) g
    . refine ⟨bx,(zX (Ne.symm g1)).trans ((zX (Ne.symm g2)).trans hn),hC,fun m m1 e1 e2=>?_⟩
      cases ge m m1 e1 e2;have g:=O n _ m hn e1;refine hb _ bx bx m m hC (by rw [<-g.ver]) rfl rfl g.ok ?_ g
      rcases hc with hc|hc|hc|⟨n',v',k',hc,hd⟩
      . exact absurd hc g2
      . exact absurd hc g1
      . rw [hc];exact fun c i j hr=>hr
      . cases ae:bx.pm with
        | true=>exact fun c i j hr=>hr
        | false=>rw [hd];exact ht _ _ _ _ fun c=>hx c n' v' k' hc
 have hR':HR w' A' M'' w0.heap.size ((E.set p ⟨0,1,t,[.osl (.b q) 1 0 k],false,false⟩).set q ⟨1,s,y,xs,false,true⟩):=by
  refine ⟨fun id m1 J=>?_,fun id id' m1 m2 k1 k2 c1 c2 he=>?_,h4.lt⟩
  . obtain ⟨m0,g1,_⟩:=Q id m1 J;obtain ⟨bx,q1,q2⟩:=h4.box _ m0 g1;cases id with
    | r n i j =>
     rw [eo _ (fun e=>by cases e),g1] at J
     cases J;obtain ⟨c0,r1,_⟩:=xk8 q1;obtain ⟨bx',r2,r3,_⟩:=hg n c0 r1;rw [xdP r1 (ho n c0 r1).1] at q1;cases q1;exact ⟨_,xdP r2 r3,hb _ tombB tombB m1 m1 rfl (by rw [<-q2.ver]) rfl rfl q2.ok (fun c i j hr=>hr) q2⟩
    | b n =>
     obtain ⟨bx',r2,_,r3⟩:=hg n bx q1;exact ⟨bx',r2,r3 _ _ g1 J⟩
  . obtain ⟨n1,a1,a2,a3⟩:=Q id m1 k1;obtain ⟨n2,b1,b2,b3⟩:=Q id' m2 k2;exact h4.inj id id' n1 n2 a1 b1 (a3▸c1) (b3▸c2) (by rw [<-a2,<-b2,he])
 refine ⟨u,A',M'',rfl,h1,h2,⟨h3.size,h3.keep,h3.less,h3.more,fun id m ac hm=>?_,fun id m1 J h0=>?_⟩,hR',?_⟩
 . obtain ⟨m',g1,g2⟩:=h3.ids id m ac hm;by_cases q4:id=.b q
   . subst q4;obtain ⟨bx,r1,r2⟩:=hR.box _ m hm;exact ⟨_,e4 m' g1,.inr (by rw [<-r2.ver,hz bx r1];exact Nat.zero_lt_one)⟩
   . exact ⟨m',(eo id q4).trans g1,g2⟩
 . obtain ⟨m0,g1,g2,g3⟩:=Q id m1 J;rw [g2];exact h3.src id m0 g1 (g3▸h0)
 . obtain ⟨ad,rfl,q1,_⟩:=h5.tuple_inv;exact .tuple ad [] q1 (by simp)
namespace M
open Go.Proofs
noncomputable def set2 (q n h:Int) (ns no:Nat) (sx ox:List AV):Option (Int×Nat×Nat×List AV×List AV):=(xjh q n h ns no sx ox).bind fun p =>
 br (Nat.beq p.2.1 p.2.2.2.2.2.2.1&&Nat.beq p.2.2.2.1 p.2.2.2.2.2.2.2.2) (some (p.1,p.2.2.1,p.2.2.2.2.1,p.2.2.2.2.2.1,p.2.2.2.2.2.2.2.1)) none
noncomputable def xAF:List AV->List Box->Option (Bool×AV×List Box):=omOf (xGj (sEq (pInt IntKind.i64)) (xGj (sEq (pInt IntKind.i64)) (xGj (sEq (xGv 0 0 0 0)) (xGj (sEq (xGv 1 0 0 0)) (xGj (sEq (xGv 2 0 0 0)) xGl)))))
 (xGi (xGy 0 1 3 false true (xGi (pInt IntKind.i64) xGk)) (xGi (xGy 0 1 125 false false (xGi (xGu 3 0 0) xGk)) (xGi (xGy 0 1 97 false false (xGi (xGu 4 0 0) xGk)) (xGi (xGy 0 2 127 false true xGm) (xGi (xGy 0 2 56 false true xGm) xGk)))))
 fun (q,(n,(_,(_,(_,_))))) ((h,_),((ns,_),((no,_),(sx,(ox,_)))))=>((set2 q n h ns no sx ox).isSome,(.tuple [],[⟨0,1,3,[.int .i64 ((set2 q n h ns no sx ox).getD (0,0,0,[],[])).1],false,true⟩,⟨0,1,125,[.osl (.b 3) 1 0 ((set2 q n h ns no sx ox).getD (0,0,0,[],[])).2.1],false,false⟩,⟨0,1,97,[.osl (.b 4) 1 0 ((set2 q n h ns no sx ox).getD (0,0,0,[],[])).2.2.1],false,false⟩,⟨1,2,127,((set2 q n h ns no sx ox).getD (0,0,0,[],[])).2.2.2.1,false,true⟩,⟨1,2,56,((set2 q n h ns no sx ox).getD (0,0,0,[],[])).2.2.2.2,false,true⟩]))
theorem xDX:OmOk P0 xGh 89 xAF:=xkM fun vv bb rr Z hh=>by
 obtain ⟨J,⟨n,⟨_,⟨_,⟨_,_⟩⟩⟩⟩⟩:=vv;obtain ⟨⟨h,_⟩,⟨⟨ns,_⟩,⟨⟨no,_⟩,⟨sx,⟨ox,_⟩⟩⟩⟩⟩:=bb;obtain ⟨O,U⟩:=Prod.mk.inj hh;cases hs:xjh J n h ns no sx ox with
 | none=>rw [show set2 J n h ns no sx ox=none by unfold set2;rw [hs];rfl] at O;simp at O
 | some p =>
  have V:set2 J n h ns no sx ox=br (Nat.beq p.2.1 p.2.2.2.2.2.2.1&&Nat.beq p.2.2.2.1 p.2.2.2.2.2.2.2.2) (some (p.1,p.2.2.1,p.2.2.2.2.1,p.2.2.2.2.2.1,p.2.2.2.2.2.2.2.1)) none:=by unfold set2;rw [hs];rfl
  cases ht:Nat.beq p.2.1 p.2.2.2.2.2.2.1&&Nat.beq p.2.2.2.1 p.2.2.2.2.2.2.2.2 with
  | false=>rw [V,ht] at O;simp [br] at O
  | true =>
   rw [ht] at V;have Y:set2 J n h ns no sx ox=some (p.1,p.2.2.1,p.2.2.2.2.1,p.2.2.2.2.2.1,p.2.2.2.2.2.2.2.1):=V;rw [Y] at U;simp only [zh] at U;simp only [zf] at ht;have e1:=zg ht.1;have e2:=zg ht.2;have hx:=xu5 J n h ns no sx ox p hs;have hg:GoodM P0 xGh 89 _ _ _ _:=xfX (p:=xfR.pin) (xhL xFK (xFL P0 _) rfl xrF rfl Tryz.func89 rfl (by kernel_rfl) xqj hx)
   rw [<-e1,<-e2] at hg;have Q:=GoodM.aged (p:=1) (q:=3) hg (fun bx hb=>by cases hb;rfl) rfl rfl rfl rfl (fun n bx hn=>by
    match n with
    | 0=>cases hn;exact ⟨rfl,.inr (.inr (.inl rfl))⟩
    | 1=>cases hn;exact ⟨rfl,.inl rfl⟩
    | 2=>cases hn;exact ⟨rfl,.inr (.inr (.inr ⟨_,_,_,by decide,rfl⟩))⟩
    | 3=>cases hn;exact ⟨rfl,.inr (.inl rfl)⟩
    | 4=>cases hn;exact ⟨rfl,.inr (.inr (.inl rfl))⟩
    | n+5=>simp at hn)
   have Q:=GoodM.aged (p:=2) (q:=4) Q (fun bx hb=>by cases hb;rfl) rfl rfl rfl rfl (fun n bx hn=>by
    match n with
    | 0=>cases hn;exact ⟨rfl,.inr (.inr (.inl rfl))⟩
    | 1=>cases hn;exact ⟨rfl,.inr (.inr (.inr ⟨_,_,_,by decide,rfl⟩))⟩
    | 2=>cases hn;exact ⟨rfl,.inl rfl⟩
    | 3=>cases hn;exact ⟨rfl,.inr (.inr (.inl rfl))⟩
    | 4=>cases hn;exact ⟨rfl,.inr (.inl rfl)⟩
    | n+5=>simp at hn)
   obtain ⟨rfl,rfl⟩:=Prod.mk.inj U;exact Q
noncomputable def ESet:Env:=xo2.E.withM 89 xAF
theorem xB4:xFB P0 xGh ESet:=xo2.ok.withM xDX
noncomputable def xwv:EO:=EO.mk ESet xB4
end M
end Go.Sim
namespace Go.Sim.M
open Go.IntKind (i64 u64 u8)
open Go.RowKit Go.Proofs
def xjb (a:LA) (h b:Int) (f c:Nat) (g:Int) (d e:LA):Int:=if 0>(gC a b 1).toInt then 0 else (gC a b 1).toInt
def xja (f:LA) (h g:Int) (d a:Nat) (e:Int) (b c:LA):=set2 (gC f g 0).toInt (if 1048576<xjb f h g d a e b c then 1048576 else xjb f h g d a e b c) e a d c b
def xi9 (f:LA) (g h:Int) (d a:Nat) (e:Int) (b c:LA):=(xja f g h d a e b c).getD (0,0,0,[],[])
def xi8 (f:LA) (g h:Int) (d a:Nat) (e:Int) (b c:LA):=(xi9 f g h d a e b c).snd
def xi6 (f:LA) (g h:Int) (d a:Nat) (e:Int) (b c:LA):=(xi8 f g h d a e b c).fst
def xi7 (f:LA) (g h:Int) (d a:Nat) (e:Int) (b c:LA):=(xi8 f g h d a e b c).snd
def xi5 (f:LA) (g h:Int) (d a:Nat) (e:Int) (b c:LA):=(xi7 f g h d a e b c).snd
def xg6 {T:Type} (g:LA) (h e:Int) (d a:Nat) (f:Int) (b c:LA) (δ:T) (κl:(Int×Nat×Nat×Int×LA×LA)->T) (κr:(Nat×Int×Nat×LA×LA)->T):T:=br (decide (e<h)) (br (ixI g e) (br (ixT g e 2 [Sh.int .i64,Sh.int .i64] 0) (br ((xja g h e d a f b c).isSome) (κl (i64.wrap (e+1),(xi7 g h e d a f b c).fst,xi6 g h e d a f b c,(xi9 g h e d a f b c).fst,(xi5 g h e d a f b c).snd,List.take (xi6 g h e d a f b c) (xi5 g h e d a f b c).fst)) δ) δ) δ) (κr (d,f,a,b,c))
def xdf (f:LA) (g:Int):StT (Int×Nat×Nat×Int×LA×LA) (Nat×Int×Nat×LA×LA):=fun (h,d,a,e,b,c)=>xg6 f g h d a e b c none inL inR
def xnc:=xwv.l 30 0 [] [] Tryz.f70 0 lk0 [3,4,6,10,11,12] [3,6] [(3,2,56),(4,2,127),(4,0,0)] (q6 (xGv 0 0 0 0) (xGv 1 0 0 0) (xFY 89 (q3 (xGv 2 0 0 0) (xGv 1 0 0 0) (xGv 0 0 0 0))) (qL 2) qI qI) (q5 (xGy 0 1 97 false false (q1 (xGu 3 0 0))) (xGy 0 1 125 false false (q1 (xGu 4 0 0))) (qB 0 1 3 (q1 qI)) (qB 0 2 56 xGm) (qB 0 2 127 xGm)) (fun (_,_,(_,_,_,_),f,g,h,_) ((d,_),(a,_),(e,_),b,c,_)=>(xdf f g,(h,d,a,e,b,c),fun p=>(.leaf (.exit 0) [AV.own 0 0 0 0,AV.func 89 [AV.own 1 0 0 0,AV.own 2 0 0 0,AV.own 0 0 0 0]] [⟨0,1,97,[AV.osl 3 0 0 p.1],false,false⟩,bF 0 1 3 [AV.int .i64 p.2.1],⟨0,1,125,[AV.osl 4 0 0 p.2.2.1],false,false⟩,bF 0 2 56 p.2.2.2.1,bF 0 2 127 p.2.2.2.2]))) (0,0,0,[],[]) fun (_,_,(_,_,_,_),f,g,_,_) _ (h,d,a,e,b,c)=>((((),(),((),(),(),()),f,g,h,()),((d,()),(a,()),(e,()),b,c,())),xg6 f g h d a e b c none)
def xlW (l:LA):=Iter (xdf l (↑l.length:Int)) (0,0,0,0,[],[])
def xlV (l:LA):=(xlW l).getD (0,0,0,[],[])
def xlU (l:LA):=(xlV l).snd
def xlT (l:LA):=(xlU l).snd
def xlS (l:LA):=(xlT l).snd
def xlR (l:LA):=set2 1099511627776 0 (xlU l).fst (xlT l).fst (xlV l).fst (xlS l).snd (xlS l).fst
def xlQ (l:LA):=((xlR l).getD (0,0,0,[],[])).snd.snd
def xgp (l:LA):=(xlQ l).fst
def xgq (l:LA):=(xlQ l).snd.snd
def xmC {T:Type} (l:LA) (δ:T) (κ:LA->T):T:=br ((xlW l).isSome) (br ((xlR l).isSome) (br ((xgp l).beq (xgq l).length&&(decide (xgp l<4611686018427387904)&&(xgq l).all isP)) (br (decide (0+xgp l<=(srtP (xgq l)).length)&&true) (κ (List.take (xgp l) (List.drop 0 (srtP (xgq l))))) δ) δ) δ) δ
def xlP (l:LA):=xmC l none some
def xDh:EO:=xwv.f Tryz.func70 30 0 [] [(6,xnc.lp)] (lk1 xnc.ok) (u1 (uL 2)) (fun (l,_) _=>xmC l) (fun _ p=>AV.list 2 p) []
def xkW {T:Type} (a:LA) (δ:T) (κ:LA->T):T:=br ((↑a.length:Int)==1) (κ (a)) (br ((xel a).isSome) (br ((xlP ((xel a).getD [])).isSome) (κ ((xlP ((xel a).getD [])).getD [])) δ) δ)
def xeZ (a:LA):=xkW a none some
def xus:EO:=xDh.f Tryz.func69 10 0 [] [] lk0 (u1 (uL 2)) (fun (a,_) _=>xkW a) (fun _ p=>AV.list 2 p) []
def xeN {T:Type} (h:LA) (i j:Int) (e:LA) (f:Int) (d:Nat) (c:Int) (a b g:LA) (δ:T) (κl:(Nat×Int×LA×LA×LA)->T) (κr:(Nat×LA)->T):T:=br (decide (c<f)) (br (ixI e c) (br (ixT e c 2 [Sh.int .i64,Sh.int .i64] 0) (br (decide (b.length*32<=140737488355328)&&decide (b.length<=4611686018427387904)) (br (decide (0+b.length<=b.length)&&true&&true&&true&&true) (br (rmB d a 1 40) (κl (d+1,i64.wrap (c+1),a++[AV.agg [AV.list 3 (List.take b.length (List.drop 0 b)),AV.int .i64 (gC e c 0).toInt,AV.int .i64 (gC e c 1).toInt]],b,g)) δ) δ) δ) δ) δ) (κr (d,a))
def xbX (c:LA) (d e:Int) (f:LA) (g:Int):StT (Nat×Int×LA×LA×LA) (Nat×LA):=fun (b,h,a,i,j)=>xeN c d e f g b h a i j none inL inR
def xeE:=xus.l 38 0 [60] [] Tryz.f68 1 lk0 [1,5,7,11,12,13,20,21,22] [1,5,11,12,13] [(5,3,60)] (q9 (xFY 69 xGk) (xGu 0 0 0) (xGv 1 0 0 0) (qL 2) qI qI (qL 2) qI qI) (q2 (qB 0 3 60 xGm) (qB 0 2 124 (q1 (xGw (q2 (qL 3) (qL 2)))))) (fun (_,b,_,c,d,e,f,g,h,_) (a,((i,j,_),_),_)=>(xbX c d e f g,(b,h,a,i,j),fun p=>(.leaf (.exit 2) [AV.func 69 [],AV.osl 0 0 0 p.1,AV.list 2 c,AV.int .i64 d,AV.int .i64 e] [bF 0 3 60 p.2]))) (0,[]) fun (_,_,_,c,d,e,f,g,_,_) _ (b,h,a,i,j)=>((((),b,(),c,d,e,f,g,h,()),(a,((i,j,()),()),())),xeN c d e f g b h a i j none)
def xgy (a:LA) (e:Int) (d:Nat) (b:Int) (c:LA):=Iter (xbX a e b ((xeZ (gC a b 1).toList).getD []) (↑((xeZ (gC a b 1).toList).getD []).length:Int)) (d,0,c,(gC a b 0).toList,(gC a b 1).toList)
def xgw (c:LA) (d:Int) (b:Nat) (e:Int) (a:LA):=(xgy c d b e a).getD (0,[])
def xeM {T:Type} (d:LA) (e:Int) (c:Nat) (b:Int) (a:LA) (δ:T) (κl:(Nat×Int×LA)->T) (κr:(Nat×LA)->T):T:=br (decide (b<e)) (br (ixI d b) (br (ixT d b 2 [Sh.list 3,Sh.list 2] 0) (br ((xeZ (gC d b 1).toList).isSome) (br ((xgy d e c b a).isSome) (κl ((xgw d e c b a).fst,i64.wrap (b+1),(xgw d e c b a).snd)) δ) δ) δ) δ) (κr (c,a))
def xcH (c:LA) (d:Int):StT (Nat×Int×LA) (Nat×LA):=fun (b,e,a)=>xeM c d b e a none inL inR
def xjL:=xus.l 38 0 [60] [(6,xeE.lp)] Tryz.f68 0 (lk1 xeE.ok) [1,5,11,12,13] [5] [(5,3,60)] (q5 (xFY 69 xGk) (xGu 0 0 0) (qL 2) qI qI) (q1 (qB 0 3 60 xGm)) (fun (_,b,c,d,e,_) (a,_)=>(xcH c d,(b,e,a),fun p=>(.leaf (.exit 0) [AV.osl 0 0 0 p.1] [bF 0 3 60 p.2]))) (0,[]) fun (_,_,c,d,_,_) _ (b,e,a)=>((((),b,c,d,e,()),(a,())),xeM c d b e a none)
def xij (l:LA):=Iter (xcH ((xh7 l).getD []) (↑((xh7 l).getD []).length:Int)) (0,0,[])
def xii (l:LA):=(xij l).getD (0,[])
def xig (l:LA):=(xii l).fst
def xih (l:LA):=(xii l).snd
def xiy {T:Type} (l:LA) (δ:T) (κ:LA->T):T:=br ((xh7 l).isSome) (br ((xij l).isSome) (br (decide (0+xig l<=(xih l).length)&&true) (κ (List.take (xig l) (List.drop 0 (xih l)))) δ) δ) δ
def xkh (l:LA):=xiy l none some
def xDi:EO:=xus.f Tryz.func68 38 0 [60] [(6,xeE.lp),(3,xjL.lp)] (lks (lkC xjL.ok (lkC xeE.ok lkN))) (u2 (uL 3) (sEq (xFY (69:FuncId) xGk))) (fun (l,_,_) _=>xiy l) (fun _ p=>AV.list 3 p) []
def xl5 {T:Type} (l:LA) (δ:T) (κ:LA->T):T:=br ((xkh l).isSome) (κ ((xkh l).getD [])) δ
def xiw (l:LA):=xl5 l none some
def xDj:EO:=xDi.f Tryz.func38 5 0 [] [] lk0 (u1 (uL 3)) (fun (l,_) _=>xl5 l) (fun _ p=>AV.list 3 p) []
def xgb (b a:Bool):Int:=(br (b) (((-1))) (br (a) ((1)) ((0))))
def xvq {T:Type} (b a:Bool) (δ:T) (κ:Int->T):T:=br (b) (κ ((-1))) (br (a) (κ (1)) (κ (0)))
def xDk:EO:=xDj.fT Tryz.func81 7 0 [] [] lk0 (fun (b,a,_)=>xvq b a none) (u2 (sEq pBool) (sEq pBool)) (fun (b,a,_)=>xgb b a) (fun _ p=>(AV.int .i64 p))
def xfU (a b:Int) (c:List UInt8) (d e:Int) (f:List UInt8):Int:=(br (a != d) ((xgb (decide (a<d)) (decide (a>d)))) (br (b != e) ((xgb (decide (b<e)) (decide (b>e)))) ((xgb (Op.bytesLess c f) !(Op.bytesLess c f || c==f)))))
def xsD {T:Type} (a b:Int) (c:List UInt8) (d e:Int) (f:List UInt8) (δ:T) (κ:Int->T):T:=br (a != d) (κ (xgb (decide (a<d)) (decide (a>d)))) (br (b != e) (κ (xgb (decide (b<e)) (decide (b>e)))) (κ (xgb (Op.bytesLess c f) !(Op.bytesLess c f || c==f))))
def xzh:EO:=xDk.fT Tryz.func61 48 0 [] [] lk0 (fun ((a,b,c,_),(d,e,f,_),_)=>xsD a b c d e f none) (u2 (xGA (u3 uI uI (sEq pStr))) (xGA (u3 uI uI (sEq pStr)))) (fun ((a,b,c,_),(d,e,f,_),_)=>xfU a b c d e f) (fun _ p=>(AV.int .i64 p))
def xdz (a b:LA) (i:Int):=xfU (gC a i 0).toInt (gC a i 1).toInt (gC a i 2).toStr (gC b i 0).toInt (gC b i 1).toInt (gC b i 2).toStr
def xdR {T:Type} (a b:LA) (i:Int) (δ:T) (κl:(Int)->T) (κr:(Bool×(Int)×(Unit))->T):T:=br (decide (i<a.length)) (br (decide (i<b.length)) (br (ixI a i) (br (ixT a i 3 [Sh.int .i64,Sh.int .i64,Sh.str] 0) (br (ixI b i) (br (ixT b i 3 [Sh.int .i64,Sh.int .i64,Sh.str] 0) (br (xdz a b i != 0) (κr (true,(xdz a b i),())) (κl (i64.wrap (i+1)))) δ) δ) δ) δ) (κr (false,0,()))) (κr (false,0,()))
def xbc (a b:LA):StT (Int) (Bool×(Int)×(Unit)):=fun (i)=>xdR a b i none inL inR
def xl4:=xzh.l 41 0 [] [] Tryz.f29 0 lk0 [0,1,5] [0,1,4] [] (q3 (qL 3) (qL 3) qI) xGk (fun (a,b,i,_) _=>(xbc a b,(i),fun p=>(.node p.1 (.leaf .ret [AV.list 3 a,AV.list 3 b,AV.int .i64 p.2.1] []) (.leaf (.exit 0) [AV.list 3 a,AV.list 3 b,.top] [])))) (false,0,()) fun (a,b,_,_) _ (i)=>(((a,b,i,()),()),xdR a b i none)
def xln {T:Type} (a b:LA) (δ:T) (κ:Int->T):T:=br ((Iter (xbc a b) 0).isSome) (br (((Iter (xbc a b) 0).getD (false,0,())).fst) (κ (((Iter (xbc a b) 0).getD (false,0,())).snd.fst)) (br (decide ((↑a.length:Int)<(↑b.length:Int))) (κ ((-1))) (br (decide ((↑a.length:Int)>(↑b.length:Int))) (κ (1)) (κ (0))))) δ
def xa7 (a b:LA):=xln a b none some
def xDl:EO:=xzh.f Tryz.func29 41 0 [] [(2,xl4.lp)] (lk1 xl4.ok) (u2 (uL 3) (uL 3)) (fun (a,b,_) _=>xln a b) (fun _ p=>AV.int .i64 p) 0
def xnj {T:Type} (a b:LA) (δ:T) (κ:Bool->T):T:=br ((xa7 a b).isSome) (κ ((xa7 a b).getD 0==0)) δ
def xoL (a b:LA):=xnj a b none some
def xzi:EO:=xDl.f Tryz.func120 9 0 [] [] lk0 (u2 (uL 3) (uL 3)) (fun (a,b,_) _=>xnj a b) (fun _ p=>AV.bool p) false
def xff {T:Type} (a b:LA) (i:Int) (δ:T) (κl:(Int)->T) (κr:(Bool×(Bool)×(Unit))->T):T:=br (decide (i<a.length)) (br (ixI a i) (br (ixT a i 3 [Sh.int .i64,Sh.int .i64] 1) (br (ixI b i) (br (ixT b i 3 [Sh.int .i64,Sh.int .i64] 1) (br (!((gC a i 1).toInt==(gC b i 1).toInt&&((gC a i 2).toInt==(gC b i 2).toInt&&true))) (κr (true,(false),())) (br (ixI a i) (br (ixS a i (Sh.list 3) 0) (br (ixI b i) (br (ixS b i (Sh.list 3) 0) (br ((xa7 (gC a i 0).toList (gC b i 0).toList).isSome) (br ((xa7 (gC a i 0).toList (gC b i 0).toList).getD 0 != 0) (κr (true,(false),())) (κl (i64.wrap (i+1)))) δ) δ) δ) δ) δ)) δ) δ) δ) δ) (κr (false,false,()))
def xbE (a b:LA):StT (Int) (Bool×(Bool)×(Unit)):=fun (i)=>xff a b i none inL inR
def xkO:=xzi.l 42 0 [] [] Tryz.f11 0 lk0 [0,1,5] [4] [] (q3 (qL 3) (qL 3) qI) xGk (fun (a,b,i,_) _=>(xbE a b,(i),fun p=>(.node p.1 (.leaf .ret [AV.bool p.2.1] []) (.leaf (.exit 0) [.top] [])))) (false,false,()) fun (a,b,_,_) _ (i)=>(((a,b,i,()),()),xff a b i none)
def xjI {T:Type} (a b:LA) (δ:T) (κ:Bool->T):T:=br ((↑a.length:Int) != (↑b.length:Int)) (κ (false)) (br ((Iter (xbE a b) 0).isSome) (br (((Iter (xbE a b) 0).getD (false,false,())).fst) (κ (((Iter (xbE a b) 0).getD (false,false,())).snd.fst)) (κ (true))) δ)
def xgc (a b:LA):=xjI a b none some
def xzj:EO:=xzi.f Tryz.func11 42 0 [] [(4,xkO.lp)] (lk1 xkO.ok) (u2 (uL 3) (uL 3)) (fun (a,b,_) _=>xjI a b) (fun _ p=>AV.bool p) false
def xdU (a b:LA) (i k:Int):=decide ((xa7 (gC b k 0).toList (gC a i 0).toList).getD 0<0)
def xdV (a:LA) (i:Int):=decide (i.toNat<a.length)&&((a.getD i.toNat .top).cells.length==3&&xFG [Sh.list 3,Sh.int .i64,Sh.int .i64] (a.getD i.toNat .top).cells 0)
def xdW (b:LA) (k:Int):=decide (k.toNat<b.length)&&((b.getD k.toNat .top).cells.length==3&&xFG [Sh.list 3,Sh.int .i64,Sh.int .i64] (b.getD k.toNat .top).cells 0)
def xcT (b:LA) (k:Int):=ixI b k
def xcU (a:LA) (i:Int):=ixI a i
def xct {T:Type} (b:LA) (c:Nat) (i k:Int) (a:LA) (δ:T) (κl:(Nat×Int×Int×LA)->T):T:=br (xcT b k) (br (xdW b k) (br (rmB c a 1 40) (κl (c+1,i,i64.wrap (k+1),a++[AV.agg [AV.list 3 (gC b k 0).toList,AV.int .i64 (gC b k 1).toInt,AV.int .i64 (gC b k 2).toInt]])) δ) δ) δ
def xcu {T:Type} (a:LA) (c:Nat) (i k:Int) (b:LA) (δ:T) (κl:(Nat×Int×Int×LA)->T):T:=br (xcU a i) (br (xdV a i) (br (rmB c b 1 40) (κl (c+1,i64.wrap (i+1),k,b++[AV.agg [AV.list 3 (gC a i 0).toList,AV.int .i64 (gC a i 1).toInt,AV.int .i64 (gC a i 2).toInt]])) δ) δ) δ
def xcs {T:Type} (a b:LA) (d:Nat) (i k:Int) (c:LA) (δ:T) (κl:(Nat×Int×Int×LA)->T):T:=br (i==(↑a.length:Int)) (xct b d i k c δ κl) (br (decide (k<b.length)) (br (xcT b k) (br (ixS b k (Sh.list 3) 0) (br (xcU a i) (br (ixS a i (Sh.list 3) 0) (br ((xa7 (gC b k 0).toList (gC a i 0).toList).isSome) (br (xdU a b i k) (xct b d i k c δ κl) (xcu a d i k c δ κl)) δ) δ) δ) δ) δ) (xcu a d i k c δ κl))
def xdi {T:Type} (a b:LA) (d:Nat) (i k:Int) (c:LA) (δ:T) (κl:(Nat×Int×Int×LA)->T) (κr:(Nat×LA)->T):T:=br (decide (i<a.length)) (xcs a b d i k c δ κl) (br (decide (k<b.length)) (xcs a b d i k c δ κl) (κr (d,c)))
def xbo (a b:LA):StT (Nat×Int×Int×LA) (Nat×LA):=fun (d,i,k,c)=>xdi a b d i k c none inL inR
def xm8:=xzj.l 61 0 [] [] Tryz.f97 0 lk0 [0,1,5,6,7] [5] [(5,3,60)] (q5 (qL 3) (qL 3) (xGu 0 0 0) qI qI) (q1 (qB 0 3 60 xGm)) (fun (a,b,d,i,k,_) (c,_)=>(xbo a b,(d,i,k,c),fun p=>(.leaf (.exit 0) [AV.osl 0 0 0 p.1] [bF 0 3 60 p.2]))) (0,[]) fun (a,b,_,_,_,_) _ (d,i,k,c)=>(((a,b,d,i,k,()),(c,())),xdi a b d i k c none)
def xlL (a b:LA):=Iter (xbo a b) (0,0,0,[])
def xlK (a b:LA):=(xlL a b).getD (0,[])
def xlI (a b:LA):=(xlK a b).snd
def xlJ (a b:LA):=(xlK a b).fst
def xmr {T:Type} (a b:LA) (δ:T) (κ:LA->T):T:=br ((xlL a b).isSome) (br (decide (0+xlJ a b<=(xlI a b).length)&&true) (κ (List.take (xlJ a b) (List.drop 0 (xlI a b)))) δ) δ
def xob (a b:LA):=xmr a b none some
def xrx:EO:=xzj.f Tryz.func97 61 0 [] [(3,xm8.lp)] (lk1 xm8.ok) (u2 (uL 3) (uL 3)) (fun (a,b,_) _=>xmr a b) (fun _ p=>AV.list 3 p) []
def xi0 (R:LA->Option (LA)):LA->Option (Bool×AV):=ocOf (xGj (xGz 3 xGm) xGl) fun (l,_)=>((R l).isSome,AV.list 3 ((R l).getD []))
def xeA (R:LA->Option (LA)):Env:=(xrx.E.with 82 (xi0 R)).fn 20 0 (lsOf []) (xFX [])
def xio (R:LA->Option (LA)):Prop:=OcOk P0 xGh 82 (xi0 R)
theorem xpY (R:LA->Option (LA)) (a:xio R):xFB P0 (xGh.at 0) (xeA R):=(xrx.ok.with a).fn
theorem xpa (R:LA->Option (LA)):LoOk P0 (xGh.at (xeA R).pin) (xeA R) (Tryz.f82.body.getD .skip):=xer (by kernel_rfl)
def xkC (l:LA):=decide (0<=i64.wrap ((↑l.length:Int).tdiv 2))&&decide (i64.wrap ((↑l.length:Int).tdiv 2)<=(↑l.length:Int))
def xkD (R:LA->Option (LA)) (l:LA):Option (LA):=R (List.take (l.length - (i64.wrap ((↑l.length:Int).tdiv 2)).toNat) (List.drop (i64.wrap ((↑l.length:Int).tdiv 2)).toNat l))
def xkB (R:LA->Option (LA)) (l:LA):Option (LA):=xob ((R (List.take ((i64.wrap ((↑l.length:Int).tdiv 2)).toNat - 0) (List.drop 0 l))).getD []) ((xkD R l).getD [])
def xeR {T:Type} (R:LA->Option (LA)) (l:LA) (δ:T) (κ:LA->T):T:=br (decide ((↑l.length:Int)<2)) (κ (l)) (br (xkC l&&true) (br ((R (List.take ((i64.wrap ((↑l.length:Int).tdiv 2)).toNat - 0) (List.drop 0 l))).isSome) (br (xkC l) (br ((xkD R l).isSome) (br ((xkB R l).isSome) (κ ((xkB R l).getD [])) δ) δ) δ) δ) δ)
def xcg (R:LA->Option (LA)) (l:LA):=xeR R l none some
theorem xsH (R:LA->Option (LA)) (l:LA):Enc (fun (p:LA)=>((AV.list 3 p):AV)) (xcg R l) (XF P0 (xeA R) Tryz.f82 (Tryz.f82.body.getD .skip) [AV.list 3 l]):=by
 have h:XF P0 (xeA R) Tryz.f82 (Tryz.f82.body.getD .skip) [AV.list 3 l]=xeR R l none (fun (p:LA)=>some ((AV.list 3 p):AV)):=by kernel_rfl
 rw [h];unfold xcg xeR;repeat' (first|refine Enc.br ?_ ?_|exact Enc.none|exact Enc.some rfl)
def xsG (R:LA->Option (LA)):LA->Option (Bool×AV):=ocOf (xGj (xGz 3 xGm) xGl) fun (l,_)=>((xcg R l).isSome,(AV.list 3 ((xcg R l).getD [])))
theorem xsF (R:LA->Option (LA)) (c:xio R):OcOk P0 xGh 82 (xsG R):=xkL fun e g f=>by
 obtain ⟨l,_⟩:=e;obtain ⟨a,b⟩:=Prod.mk.inj f;refine xhV (p:=(xeA R).pin) (xkJ xFK (xFL P0 _) rfl (xpY R c) Tryz.func82 rfl (by kernel_rfl) (xpa R) ((xsH R _ _ (xcl (d:=[]) a)).trans ?_))
 exact congrArg some b
def xbK:Nat->LA->Option (LA)
 | 0=>fun _=>none
 | fu_+1=>fun l=>xcg (xbK fu_) l
theorem xm9:∀ n,xio (xbK n)
 | 0=>xkL fun _ _ h=>absurd (Prod.mk.inj h).1 Bool.false_ne_true
 | fu_+1=>fun a r h=>xsF (xbK fu_) (xm9 fu_) a r h
def xzk:Env:=xrx.E.with 82 (xi0 (xbK 100))
theorem xzm:xFB P0 xGh xzk:=xrx.ok.with (xm9 _)
def xzl:EO:=EO.mk xzk xzm
def xbq (a b:Int):Bool:=(br (decide (a>=0)) (br (decide (a<b)) ((decide (b<=1099511627776))) ((false))) ((false)))
def xug {T:Type} (a b:Int) (δ:T) (κ:Bool->T):T:=br (decide (a>=0)) (br (decide (a<b)) (κ (decide (b<=1099511627776))) (κ (false))) (κ (false))
def xDm:EO:=xzl.fT Tryz.func59 18 0 [] [] lk0 (fun ((a,b,_),_)=>xug a b none) (u1 (xGA (u2 uI uI))) (fun ((a,b,_),_)=>xbq a b) (fun _ p=>(AV.bool p))
def xjr (a b t:Int):Bool:=(br (xbq a b) (br (decide (a<=t)) ((decide (t<b))) ((false))) ((false)))
def xrN {T:Type} (a b t:Int) (δ:T) (κ:Bool->T):T:=br (xbq a b) (br (decide (a<=t)) (κ (decide (t<b))) (κ (false))) (κ (false))
def xDn:EO:=xDm.fT Tryz.func121 19 0 [] [] lk0 (fun ((a,b,_),t,_)=>xrN a b t none) (u2 (xGA (u2 uI uI)) uI) (fun ((a,b,_),t,_)=>xjr a b t) (fun _ p=>(AV.bool p))
def xj7 (a b c d:Int):Int:=(br (a==c&&(b==d&&true)) ((0)) (br (decide (a<c)) (((-1))) (br (a==c) (br (decide (b<d)) (((-1))) ((1))) ((1)))))
def xsB {T:Type} (a b c d:Int) (δ:T) (κ:Int->T):T:=br (a==c&&(b==d&&true)) (κ (0)) (br (decide (a<c)) (κ ((-1))) (br (a==c) (br (decide (b<d)) (κ ((-1))) (κ (1))) (κ (1))))
def xB2:EO:=xDn.fT Tryz.func101 27 0 [] [] lk0 (fun ((a,b,_),(c,d,_),_)=>xsB a b c d none) (u2 (xGA (u2 uI uI)) (xGA (u2 uI uI))) (fun ((a,b,_),(c,d,_),_)=>xj7 a b c d) (fun _ p=>(AV.int .i64 p))
def xyQ:Int×Int×List UInt8:=((0,0,[]))
def xvp {T:Type} (δ:T) (κ:Int×Int×List UInt8->T):T:=κ (0,0,[])
def xB3:EO:=xB2.fT Tryz.func180 2 0 [] [] lk0 (fun _=>xvp none) xGl (fun _=>xyQ) (fun _ p=>(AV.agg [AV.int .i64 p.1,AV.int .i64 p.2.1,AV.str p.2.2]))
def xsE {T:Type} (a:LA) (i:Int) (δ:T) (κ:Int×Int×List UInt8->T):T:=br (decide (i<0)) (κ (0,0,[])) (br (decide (i>=a.length)) (κ (0,0,[])) (br (ixI a i) (br (ixT a i 3 [Sh.int .i64,Sh.int .i64,Sh.str] 0) (κ ((gC a i 0).toInt,(gC a i 1).toInt,(gC a i 2).toStr)) δ) δ))
def xps (a:LA) (i:Int):=xsE a i none some
def xwq:EO:=xB3.f Tryz.func175 18 0 [] [] lk0 (u2 (uL 3) uI) (fun (a,i,_) _=>xsE a i) (fun _ p=>AV.agg [AV.int .i64 p.1,AV.int .i64 p.2.1,AV.str p.2.2]) (0,0,[])
def xiW (o:LA) (i:Int):=ixI o i
def xm1 (a o:LA) (i:Int):=(xps a (gC o i 0).toInt).getD (0,0,[])
def xm2 (b o:LA) (i:Int):=(xps b (gC o i 0).toInt).getD (0,0,[])
def xmx (b o:LA) (i:Int):=(xm2 b o i).snd
def xm0 (a o:LA) (i:Int):=(xm1 a o i).snd
def xmZ (a b o:LA) (i:Int):=xfU (xm1 a o i).fst (xm0 a o i).fst (xm0 a o i).snd (xm2 b o i).fst (xmx b o i).fst (xmx b o i).snd
def xjH {T:Type} (a b o:LA) (i:Int) (δ:T) (κl:(Int)->T) (κr:(Bool×(Bool)×(Unit))->T):T:=br (decide (i<o.length)) (br (xiW o i) (br (ixS o i (Sh.int .i64) 0) (br ((xps a (gC o i 0).toInt).isSome) (br (xiW o i) (br (ixS o i (Sh.int .i64) 0) (br ((xps b (gC o i 0).toInt).isSome) (br (xmZ a b o i != 0) (br (xiW o i) (br (decide (i.toNat<o.length)&&xFz Sh.bool (gC o i 1)) (κr (true,(!decide (xmZ a b o i<0)==(gC o i 1).toBool),())) δ) δ) (κl (i64.wrap (i+1)))) δ) δ) δ) δ) δ) δ) (κr (false,false,()))
def xc1 (a b o:LA):StT (Int) (Bool×(Bool)×(Unit)):=fun (i)=>xjH a b o i none inL inR
def xmY:=xwq.l 44 0 [] [] Tryz.f168 0 lk0 [0,1,2,7] [0,1,6] [] (q4 (qL 3) (qL 3) (qL 2) qI) xGk (fun (a,b,o,i,_) _=>(xc1 a b o,(i),fun p=>(.node p.1 (.leaf .ret [AV.list 3 a,AV.list 3 b,AV.bool p.2.1] []) (.leaf (.exit 0) [AV.list 3 a,AV.list 3 b,.top] [])))) (false,false,()) fun (a,b,o,_,_) _ (i)=>(((a,b,o,i,()),()),xjH a b o i none)
def xmm {T:Type} (a b o:LA) (δ:T) (κ:Bool->T):T:=br ((Iter (xc1 a b o) 0).isSome) (br (((Iter (xc1 a b o) 0).getD (false,false,())).fst) (κ (((Iter (xc1 a b o) 0).getD (false,false,())).snd.fst)) (br ((xa7 a b).isSome) (κ (decide ((xa7 a b).getD 0<0))) δ)) δ
def xlq (a b o:LA):=xmm a b o none some
def xwr:EO:=xwq.f Tryz.func168 44 0 [] [(2,xmY.lp)] (lk1 xmY.ok) (u3 (uL 3) (uL 3) (uL 2)) (fun (a,b,o,_) _=>xmm a b o) (fun _ p=>AV.bool p) false
def xcP (a:LA) (i:Int):=decide (i.toNat<a.length)&&xFz (Sh.list 3) (gC a i 0)
def xcQ (b:LA) (k:Int):=decide (k.toNat<b.length)&&xFz (Sh.list 3) (gC b k 0)
def xcR (a:LA) (i:Int):=ixI a i
def xcS (b:LA) (k:Int):=ixI b k
def xcq {T:Type} (b:LA) (c:Nat) (i k:Int) (a:LA) (δ:T) (κl:(Nat×Int×Int×LA)->T):T:=br (xcS b k) (br (xcQ b k) (br (rmB c a 1 24) (κl (c+1,i,i64.wrap (k+1),a++[AV.list 3 (gC b k 0).toList])) δ) δ) δ
def xcr {T:Type} (a:LA) (c:Nat) (i k:Int) (b:LA) (δ:T) (κl:(Nat×Int×Int×LA)->T):T:=br (xcR a i) (br (xcP a i) (br (rmB c b 1 24) (κl (c+1,i64.wrap (i+1),k,b++[AV.list 3 (gC a i 0).toList])) δ) δ) δ
def xcp {T:Type} (a b o:LA) (d:Nat) (i k:Int) (c:LA) (δ:T) (κl:(Nat×Int×Int×LA)->T):T:=br (i==(↑a.length:Int)) (xcq b d i k c δ κl) (br (decide (k<b.length)) (br (xcS b k) (br (xcQ b k) (br (xcR a i) (br (xcP a i) (br ((xlq (gC b k 0).toList (gC a i 0).toList o).isSome) (br ((xlq (gC b k 0).toList (gC a i 0).toList o).getD false) (xcq b d i k c δ κl) (xcr a d i k c δ κl)) δ) δ) δ) δ) δ) (xcr a d i k c δ κl))
def xdh {T:Type} (a b o:LA) (d:Nat) (i k:Int) (c:LA) (δ:T) (κl:(Nat×Int×Int×LA)->T) (κr:(Nat×LA)->T):T:=br (decide (i<a.length)) (xcp a b o d i k c δ κl) (br (decide (k<b.length)) (xcp a b o d i k c δ κl) (κr (d,c)))
def xbn (a b o:LA):StT (Nat×Int×Int×LA) (Nat×LA):=fun (d,i,k,c)=>xdh a b o d i k c none inL inR
def xm3:=xwr.l 62 0 [] [] Tryz.f160 0 lk0 [0,1,2,7,8,9] [7] [(7,1,54)] (q6 (qL 1) (qL 1) (qL 2) (xGu 0 0 0) qI qI) (q1 (qB 0 1 54 xGm)) (fun (a,b,o,d,i,k,_) (c,_)=>(xbn a b o,(d,i,k,c),fun p=>(.leaf (.exit 0) [AV.osl 0 0 0 p.1] [bF 0 1 54 p.2]))) (0,[]) fun (a,b,o,_,_,_,_) _ (d,i,k,c)=>(((a,b,o,d,i,k,()),(c,())),xdh a b o d i k c none)
def xlu (a b o:LA):=Iter (xbn a b o) (0,0,0,[])
def xlt (a b o:LA):=(xlu a b o).getD (0,[])
def xlr (a b o:LA):=(xlt a b o).fst
def xls (a b o:LA):=(xlt a b o).snd
def xmn {T:Type} (a b o:LA) (δ:T) (κ:LA->T):T:=br ((xlu a b o).isSome) (br (decide (0+xlr a b o<=(xls a b o).length)&&true) (κ (List.take (xlr a b o) (List.drop 0 (xls a b o)))) δ) δ
def xn5 (a b o:LA):=xmn a b o none some
def xqG:EO:=xwr.f Tryz.func160 62 0 [] [(3,xm3.lp)] (lk1 xm3.ok) (u3 (uL 1) (uL 1) (uL 2)) (fun (a,b,o,_) _=>xmn a b o) (fun _ p=>AV.list 1 p) []
def xkA (R:LA->LA->Option (LA)):LA->Option (Bool×AV):=ocOf (xGj (xGz 1 xGm) (xGj (xGz 2 xGm) xGl)) fun (l,(o,_))=>((R l o).isSome,AV.list 1 ((R l o).getD []))
def xfr (R:LA->LA->Option (LA)):Env:=(xqG.E.with 141 (xkA R)).fn 34 0 (lsOf []) (xFX [])
def xjG (R:LA->LA->Option (LA)):Prop:=OcOk P0 xGh 141 (xkA R)
theorem xqW (R:LA->LA->Option (LA)) (a:xjG R):xFB P0 (xGh.at 0) (xfr R):=(xqG.ok.with a).fn
theorem xpt (R:LA->LA->Option (LA)):LoOk P0 (xGh.at (xfr R).pin) (xfr R) (Tryz.f141.body.getD .skip):=xer (by kernel_rfl)
def xho (l:LA):=decide (0<=i64.wrap ((↑l.length:Int).tdiv 2))&&decide (i64.wrap ((↑l.length:Int).tdiv 2)<=(↑l.length:Int))
def xez (l:LA):Nat:=0+((l.getD 0 .top).cells.getD 0 .top).toList.length
def xhp (R:LA->LA->Option (LA)) (l o:LA):Option (LA):=R (List.take (l.length - (i64.wrap ((↑l.length:Int).tdiv 2)).toNat) (List.drop (i64.wrap ((↑l.length:Int).tdiv 2)).toNat l)) o
def xhn (R:LA->LA->Option (LA)) (l o:LA):Option (LA):=xn5 ((R (List.take ((i64.wrap ((↑l.length:Int).tdiv 2)).toNat - 0) (List.drop 0 l)) o).getD []) ((xhp R l o).getD []) o
def xef {T:Type} (R:LA->LA->Option (LA)) (l o:LA) (δ:T) (κ:LA->T):T:=br ((↑l.length:Int)==0) (κ ([])) (br ((↑l.length:Int)==1) (br (decide (0<(↑l.length:Int))) (br (decide (0<l.length)&&xFz (Sh.list 3) ((l.getD 0 .top).cells.getD 0 .top)) (br (decide (xez l*32<=140737488355328)&&decide (xez l<=4611686018427387904)) (br (decide (0+xez l<=([]++((l.getD 0 .top).cells.getD 0 .top).toList).length)&&true&&true&&true) (κ ([AV.list 3 (List.take (xez l) (List.drop 0 ([]++((l.getD 0 .top).cells.getD 0 .top).toList)))])) δ) δ) δ) δ) (br (xho l&&true) (br ((R (List.take ((i64.wrap ((↑l.length:Int).tdiv 2)).toNat - 0) (List.drop 0 l)) o).isSome) (br (xho l) (br ((xhp R l o).isSome) (br ((xhn R l o).isSome) (κ ((xhn R l o).getD [])) δ) δ) δ) δ) δ))
def xbx (R:LA->LA->Option (LA)) (l o:LA):=xef R l o none some
theorem xuj (R:LA->LA->Option (LA)) (l o:LA):Enc (fun (p:LA)=>((AV.list 1 p):AV)) (xbx R l o) (XF P0 (xfr R) Tryz.f141 (Tryz.f141.body.getD .skip) [AV.list 1 l,AV.list 2 o]):=by
 have h:XF P0 (xfr R) Tryz.f141 (Tryz.f141.body.getD .skip) [AV.list 1 l,AV.list 2 o]=xef R l o none (fun (p:LA)=>some ((AV.list 1 p):AV)):=by kernel_rfl
 rw [h];unfold xbx xef;repeat' (first|refine Enc.br ?_ ?_|exact Enc.none|exact Enc.some rfl)
def xui (R:LA->LA->Option (LA)):LA->Option (Bool×AV):=ocOf (xGj (xGz 1 xGm) (xGj (xGz 2 xGm) xGl)) fun (l,(o,_))=>((xbx R l o).isSome,(AV.list 1 ((xbx R l o).getD [])))
theorem xuh (R:LA->LA->Option (LA)) (c:xjG R):OcOk P0 xGh 141 (xui R):=xkL fun e g f=>by
 obtain ⟨l,⟨o,_⟩⟩:=e;obtain ⟨a,b⟩:=Prod.mk.inj f;refine xhV (p:=(xfr R).pin) (xkJ xFK (xFL P0 _) rfl (xqW R c) Tryz.func141 rfl (by kernel_rfl) (xpt R) ((xuj R _ _ _ (xcl (d:=[]) a)).trans ?_))
 exact congrArg some b
def xbW:Nat->LA->LA->Option (LA)
 | 0=>fun _ _=>none
 | fu_+1=>fun l o=>xbx (xbW fu_) l o
theorem xn3:∀ n,xjG (xbW n)
 | 0=>xkL fun _ _ h=>absurd (Prod.mk.inj h).1 Bool.false_ne_true
 | fu_+1=>fun a r h=>xuh (xbW fu_) (xn3 fu_) a r h
def xws:Env:=xqG.E.with 141 (xkA (xbW 1000))
theorem xye:xFB P0 xGh xws:=xqG.ok.with (xn3 _)
def xyd:EO:=EO.mk xws xye
def xn4 {T:Type} (l:LA) (δ:T) (κ:LA->T):T:=br ((xbW 1000 l []).isSome) (κ ((xbW 1000 l []).getD [])) δ
def xlp (l:LA):=xn4 l none some
def xwt:EO:=xyd.f Tryz.func119 5 0 [] [] lk0 (u1 (uL 1)) (fun (l,_) _=>xn4 l) (fun _ p=>AV.list 1 p) []
def xfc (a:LA) (i:Int):=decide (i.toNat<a.length)&&xFz (Sh.list 3) (gC a i 0)
def xfd (a:LA) (i:Int):=ixI a i
def xfe (a:LA) (i:Int):=xoL ((a.getD (i64.wrap (i - 1)).toNat .top).cells.getD 0 .top).toList (gC a i 0).toList
def xdS {T:Type} (c:LA) (b:Nat) (i:Int) (a:LA) (δ:T) (κl:(Nat×Int×LA)->T):T:=br (xfd c i) (br (xfc c i) (br (rmB b a 1 24) (κl (b+1,i64.wrap (i+1),a++[AV.list 3 (gC c i 0).toList])) δ) δ) δ
def xek {T:Type} (a:LA) (c:Nat) (i:Int) (b:LA) (δ:T) (κl:(Nat×Int×LA)->T) (κr:(Nat×LA)->T):T:=br (decide (i<a.length)) (br (i==0) (xdS a c i b δ κl) (br (decide (0<=i64.wrap (i - 1))&&decide (i64.wrap (i - 1)<(↑a.length:Int))) (br (decide ((i64.wrap (i - 1)).toNat<a.length)&&xFz (Sh.list 3) ((a.getD (i64.wrap (i - 1)).toNat .top).cells.getD 0 .top)) (br (xfd a i) (br (xfc a i) (br ((xfe a i).isSome) (br (!(xfe a i).getD false) (xdS a c i b δ κl) (κl (c,i64.wrap (i+1),b))) δ) δ) δ) δ) δ)) (κr (c,b))
def xbN (c:LA):StT (Nat×Int×LA) (Nat×LA):=fun (b,i,a)=>xek c b i a none inL inR
def xlo:=xwt.l 38 0 [] [] Tryz.f98 0 lk0 [3,4,5] [4] [(4,1,54)] (q3 (qL 1) (xGu 0 0 0) qI) (q1 (qB 0 1 54 xGm)) (fun (c,b,i,_) (a,_)=>(xbN c,(b,i,a),fun p=>(.leaf (.exit 0) [AV.osl 0 0 0 p.1] [bF 0 1 54 p.2]))) (0,[]) fun (c,_,_,_) _ (b,i,a)=>(((c,b,i,()),(a,())),xek c b i a none)
def xjF (l:LA):=(Iter (xbN ((xlp l).getD [])) (0,0,[])).getD (0,[])
def xjD (l:LA):=(xjF l).fst
def xjE (l:LA):=(xjF l).snd
def xkz {T:Type} (l:LA) (δ:T) (κ:LA->T):T:=br ((xlp l).isSome) (br ((Iter (xbN ((xlp l).getD [])) (0,0,[])).isSome) (br (decide (0+xjD l<=(xjE l).length)&&true) (κ (List.take (xjD l) (List.drop 0 (xjE l)))) δ) δ) δ
def xml (l:LA):=xkz l none some
def xwu:EO:=xwt.f Tryz.func98 38 0 [] [(4,xlo.lp)] (lk1 xlo.ok) (u1 (uL 1)) (fun (l,_) _=>xkz l) (fun _ p=>AV.list 1 p) []
def xit {T:Type} (l:LA) (b:Nat) (i:Int) (a:LA) (δ:T) (κl:(Nat×Int×LA)->T) (κr:(Nat×LA)->T):T:=br (decide (i<l.length)) (br (ixI l i) (br (ixT l i 3 [Sh.int .i64,Sh.int .i64] 1) (br (xbq (gC l i 1).toInt (gC l i 2).toInt) (br (ixI l i) (br (ixS l i (Sh.list 3) 0) (br (rmB b a 1 24) (κl (b+1,i64.wrap (i+1),a++[AV.list 3 (gC l i 0).toList])) δ) δ) δ) (κl (b,i64.wrap (i+1),a))) δ) δ) (κr (b,a))
def xdT (l:LA):StT (Nat×Int×LA) (Nat×LA):=fun (b,i,a)=>xit l b i a none inL inR
def xn9:=xwu.l 27 0 [] [] Tryz.f83 0 lk0 [0,3,4] [3] [(3,1,54)] (q3 (qL 3) (xGu 0 0 0) qI) (q1 (qB 0 1 54 xGm)) (fun (l,b,i,_) (a,_)=>(xdT l,(b,i,a),fun p=>(.leaf (.exit 0) [AV.osl 0 0 0 p.1] [bF 0 1 54 p.2]))) (0,[]) fun (l,_,_,_) _ (b,i,a)=>(((l,b,i,()),(a,())),xit l b i a none)
def xnn (l:LA):=(Iter (xdT l) (0,0,[])).getD (0,[])
def xnl (l:LA):=(xnn l).snd
def xnm (l:LA):=(xnn l).fst
def xnk (l:LA):=xml (List.take (xnm l) (List.drop 0 (xnl l)))
def xoa {T:Type} (l:LA) (δ:T) (κ:LA->T):T:=br ((Iter (xdT l) (0,0,[])).isSome) (br (decide (0+xnm l<=(xnl l).length)&&true) (br ((xnk l).isSome) (κ ((xnk l).getD [])) δ) δ) δ
def xnI (l:LA):=xoa l none some
def xsW:EO:=xwu.f Tryz.func83 27 0 [] [(3,xn9.lp)] (lk1 xn9.ok) (u1 (uL 3)) (fun (l,_) _=>xoa l) (fun _ p=>AV.list 1 p) []
def xfS:Env:=xsW.E.fn 51 1 (lsOf []) (xFX [])
theorem xrP:xFB P0 (xGh.at 1) xfS:=xsW.ok.fn
theorem xpX:LoOk P0 (xGh.at xfS.pin) xfS (Tryz.f100.body.getD .skip):=xer (by kernel_rfl)
def xdF (k:Nat) (a:LA):=(List.take ((i64.wrap ((↑k:Int) - 1)).toNat - 0) (List.drop 0 a)).length
def xj9 (k:Nat) (a:LA):=decide (0+(i64.wrap ((↑k:Int) - 1)).toNat<a.length)
def xh9 (k:Nat) (a:LA):=((a.getD (0+(i64.wrap ((↑k:Int) - 1)).toNat) .top).cells.getD 1 .top).toInt
def xka (k:Nat):=decide (0<=i64.wrap ((↑k:Int) - 1))
def xh8 (k:Nat):=xka k&&decide (i64.wrap ((↑k:Int) - 1)<(↑k:Int))
def xj8 (k:Nat) (a:LA):=xj9 k a&&xFz (Sh.int .i64) ((a.getD (0+(i64.wrap ((↑k:Int) - 1)).toNat) .top).cells.getD 1 .top)
def xha {T:Type} (k:Nat) (a b:Int) (c:LA) (δ:T) (κ:Bool×(Nat×LA×LA)×(Nat×LA)->T):T:=br (rmB k c 1 16) (κ (false,(0,[],[]),(k+1,c++[AV.agg [AV.int .i64 a,AV.int .i64 b]]))) δ
def xiV {T:Type} (k:Nat) (b c:Int) (a:LA) (δ:T) (κ:Bool×(Nat×LA×LA)×(Nat×LA)->T):T:=br (decide ((↑k:Int)>0)) (br (xh8 k) (br (xj8 k a) (br (decide (xh9 k a>=b)) (br (xka k&&decide (i64.wrap ((↑k:Int) - 1)<=(↑k:Int))&&true) (br (decide (0+((i64.wrap ((↑k:Int) - 1)).toNat - 0)<=a.length)&&(decide (xdF k a*16<=140737488355328)&&decide (xdF k a<=4611686018427387904))) (br (xh8 k) (br (xj9 k a&&xFz (Sh.int .i64) ((a.getD (0+(i64.wrap ((↑k:Int) - 1)).toNat) .top).cells.getD 0 .top)) (br (xh8 k) (br (xj8 k a) (br (xdF k a==xdF k a&&(decide ((xdF k a+1)*16<=140737488355328)&&decide (xdF k a+1<=4611686018427387904))) (κ (true,(xdF k a+1,a,List.take ((i64.wrap ((↑k:Int) - 1)).toNat - 0) (List.drop 0 a)++[AV.agg [AV.int .i64 ((a.getD (0+(i64.wrap ((↑k:Int) - 1)).toNat) .top).cells.getD 0 .top).toInt,AV.int .i64 (if c>xh9 k a then c else xh9 k a)]]),(0,[]))) δ) δ) δ) δ) δ) δ) δ) (xha k b c a δ κ)) δ) δ) (xha k b c a δ κ)
def xbV (k:Nat) (a b:Int) (c:LA):=xiV k a b c none some
theorem xvo (k:Nat) (a b:Int) (xs:LA):Enc (fun (p:Bool×(Nat×LA×LA)×(Nat×LA))=>((br p.1 ((AV.osl 1 0 0 p.2.1.1,([⟨0,2,56,p.2.1.2.1,false,true⟩,⟨0,2,56,p.2.1.2.2,false,true⟩]:List Box))) ((AV.osl 0 1 0 p.2.2.1,([⟨1,2,56,p.2.2.2,false,true⟩]:List Box)))):(AV×List Box))) (xbV k a b xs) (XFM P0 xfS Tryz.f100 (Tryz.f100.body.getD .skip) [AV.osl (0:Id) 0 0 k,AV.agg [AV.int .i64 a,AV.int .i64 b]] [{ ver:=0,sz:=2,ty:=(56:TypeId),xs:=xs,frz:=false,pm:=true }]):=by
 have h:XFM P0 xfS Tryz.f100 (Tryz.f100.body.getD .skip) [AV.osl (0:Id) 0 0 k,AV.agg [AV.int .i64 a,AV.int .i64 b]] [{ ver:=0,sz:=2,ty:=(56:TypeId),xs:=xs,frz:=false,pm:=true }]=xiV k a b xs none (fun (p:Bool×(Nat×LA×LA)×(Nat×LA))=>some ((br p.1 ((AV.osl 1 0 0 p.2.1.1,([⟨0,2,56,p.2.1.2.1,false,true⟩,⟨0,2,56,p.2.1.2.2,false,true⟩]:List Box))) ((AV.osl 0 1 0 p.2.2.1,([⟨1,2,56,p.2.2.2,false,true⟩]:List Box)))):(AV×List Box))):=by kernel_rfl
 rw [h];unfold xbV xiV xha;repeat' (first|refine Enc.br ?_ ?_|exact Enc.none|exact Enc.some rfl)
def xvn:LA->List Box->Option (Bool×AV×List Box):=omOf (xGj (sEq (xGu 0 0 0)) (xGj (xGA (xGj (sEq (pInt .i64)) (xGj (sEq (pInt .i64)) xGl))) xGl)) (xGi (xGy 0 2 (56:TypeId) false true xGm) xGk) fun (k,((a,(b,_)),_)) (c,_)=>((xbV k a b c).isSome,(AV.osl 1 0 0 (br ((xbV k a b c).getD (false,(0,[],[]),(0,[]))).1 ((xbV k a b c).getD (false,(0,[],[]),(0,[]))).2.1.1 ((xbV k a b c).getD (false,(0,[],[]),(0,[]))).2.2.1),
 ([⟨2,2,56,[],false,true⟩,⟨0,2,56,br ((xbV k a b c).getD (false,(0,[],[]),(0,[]))).1 ((xbV k a b c).getD (false,(0,[],[]),(0,[]))).2.1.2.2 ((xbV k a b c).getD (false,(0,[],[]),(0,[]))).2.2.2,false,true⟩]:List Box)))
theorem xvm:OmOk P0 xGh 100 (xvn):=xkM fun e f j h g=>by
 obtain ⟨k,⟨⟨c,⟨i,_⟩⟩,_⟩⟩:=e;obtain ⟨l,_⟩:=f;obtain ⟨b,a⟩:=Prod.mk.inj g;have hx:=xvo _ _ _ _ _ (xcl (d:=(false,(0,[],[]),(0,[]))) b);revert hx a;generalize ((xbV _ _ _ _).getD (false,(0,[],[]),(0,[])))=p;intro a hx;obtain ⟨rfl,rfl⟩:=Prod.mk.inj a;obtain ⟨t,⟨m,n,o⟩,q,r⟩:=p;have hg:GoodM P0 xGh 100 _ _ _ _:=xfX (p:=xfS.pin) (xhL xFK (xFL P0 _) rfl xrP rfl Tryz.func100 rfl (by kernel_rfl) xpX hx)
 cases t
 . exact GoodM.move0 rfl (by decide) hg
 . exact GoodM.drop0 rfl (by decide) hg
def xyc:EO:=xsW.wM xvm
def xe3 {T:Type} (l:LA) (n:Int) (b:Nat) (i:Int) (a:LA) (δ:T) (κl:(Nat×Int×LA)->T) (κr:(Nat×Int×LA)->T):T:=br (decide (i<l.length)) (br (ixI l i) (br (ixS l i (Sh.int .i64) 0) (br (decide ((gC l i 0).toInt<n)) (br (ixI l i) (br (ixS l i (Sh.int .i64) 0) (br (rmB b a 1 8) (κl (b+1,i64.wrap (i+1),a++[AV.int .i64 (gC l i 0).toInt])) δ) δ) δ) (κr (b,i,a))) δ) δ) (κr (b,i,a))
def xb9 (l:LA) (n:Int):StT (Nat×Int×LA) (Nat×Int×LA):=fun (b,i,a)=>xe3 l n b i a none inL inR
def xiU:=xyc.l 58 0 [] [] Tryz.f54 0 lk0 [0,1,5,6] [0,1,5,6] [(5,1,3)] (q4 (qL 1) qI (xGu 0 0 0) qI) (q1 (qB 0 1 3 xGm)) (fun (l,n,b,i,_) (a,_)=>(xb9 l n,(b,i,a),fun p=>(.leaf (.exit 0) [AV.list 1 l,AV.int .i64 n,AV.osl 0 0 0 p.1,AV.int .i64 p.2.1] [bF 0 1 3 p.2.2]))) (0,0,[]) fun (l,n,_,_,_) _ (b,i,a)=>(((l,n,b,i,()),(a,())),xe3 l n b i a none)
def xgS {T:Type} (l:LA) (b:Nat) (i:Int) (a:LA) (δ:T) (κl:(Nat×Int×LA)->T) (κr:(Nat×LA)->T):T:=br (decide (i<l.length)) (br (ixI l i) (br (ixS l i (Sh.int .i64) 0) (br (rmB b a 1 8) (κl (b+1,i64.wrap (i+1),a++[AV.int .i64 (gC l i 0).toInt])) δ) δ) δ) (κr (b,a))
def xca (l:LA):StT (Nat×Int×LA) (Nat×LA):=fun (b,i,a)=>xgS l b i a none inL inR
def xmW:=xyc.l 58 0 [] [(3,xiU.lp)] Tryz.f54 1 lk0 [0,5,6] [5] [(5,1,3)] (q3 (qL 1) (xGu 0 0 0) qI) (q1 (qB 0 1 3 xGm)) (fun (l,b,i,_) (a,_)=>(xca l,(b,i,a),fun p=>(.leaf (.exit 2) [AV.osl 0 0 0 p.1] [bF 0 1 3 p.2]))) (0,[]) fun (l,_,_,_) _ (b,i,a)=>(((l,b,i,()),(a,())),xgS l b i a none)
def xfA (l:LA) (n:Int):=(Iter (xb9 l n) (0,0,[])).getD (0,0,[])
def xeu (l:LA) (n:Int):=(xfA l n).fst
def xfz (l:LA) (n:Int):=(xfA l n).snd
def xbH (l:LA) (n:Int):=(xfz l n).fst
def xes (l:LA) (n:Int):=xeu l n+1
def xet (l:LA) (n:Int):=(xfz l n).snd
def xf5 (l:LA) (n:Int):=Iter (xca l) (xes l n,xbH l n,xet l n++[AV.int .i64 n])
def xf9 (l:LA) (n:Int):=Iter (xca l) (xeu l n,xbH l n,xet l n)
def xh0 (l:LA) (n:Int):=xeu l n==(xet l n).length
def xf4 (l:LA) (n:Int):=(xf5 l n).getD (0,[])
def xir (l:LA) (n:Int):=(xf5 l n).isSome
def xf8 (l:LA) (n:Int):=(xf9 l n).getD (0,[])
def xf2 (l:LA) (n:Int):=(xf4 l n).snd
def xf3 (l:LA) (n:Int):=(xf4 l n).fst
def xf6 (l:LA) (n:Int):=(xf8 l n).fst
def xf7 (l:LA) (n:Int):=(xf8 l n).snd
def xku {T:Type} (l:LA) (n:Int) (δ:T) (κ:LA->T):T:=br (xh0 l n&&(decide (xes l n*8<=140737488355328)&&decide (xes l n<=4611686018427387904))) (br (xir l n) (br (decide (0+xf3 l n<=(xf2 l n).length)&&true) (κ (List.take (xf3 l n) (List.drop 0 (xf2 l n)))) δ) δ) δ
def xmc {T:Type} (l:LA) (n:Int) (δ:T) (κ:LA->T):T:=br ((Iter (xb9 l n) (0,0,[])).isSome) (br (xbH l n==(↑l.length:Int)) (xku l n δ κ) (br (decide (0<=xbH l n)&&decide (xbH l n<l.length)) (br (decide ((xbH l n).toNat<l.length)&&xFz (Sh.int .i64) ((l.getD (xbH l n).toNat .top).cells.getD 0 .top)) (br (decide (((l.getD (xbH l n).toNat .top).cells.getD 0 .top).toInt>n)) (xku l n δ κ) (br ((xf9 l n).isSome) (br (decide (0+xf6 l n<=(xf7 l n).length)&&true) (κ (List.take (xf6 l n) (List.drop 0 (xf7 l n)))) δ) δ)) δ) δ)) δ
def xfy (l:LA) (n:Int):=xmc l n none some
def xut:EO:=xyc.f Tryz.func54 58 0 [] [(3,xiU.lp),(8,xmW.lp)] (lks (lkC xiU.ok (lkC xmW.ok lkN))) (u2 (uL 1) uI) (fun (l,n,_) _=>xmc l n) (fun _ p=>AV.list 1 p) []
def xhm:Env:=xut.E.fn 28 1 (lsOf []) (xFX [])
theorem xsC:xFB P0 (xGh.at 1) xhm:=xut.ok.fn
theorem xqq:LoOk P0 (xGh.at xhm.pin) xhm (Tryz.f122.body.getD .skip):=xer (by kernel_rfl)
def xfT {T:Type} (k:Nat) (a n:Int) (b:LA) (δ:T) (κ:Bool×(Nat×LA)×(Nat×LA)->T):T:=br (rmB k b 1 16) (κ (false,(0,[]),(k+1,b++[AV.agg [AV.int .i64 a,AV.int .i64 n]]))) δ
def xif {T:Type} (k:Nat) (a n:Int) (b:LA) (δ:T) (κ:Bool×(Nat×LA)×(Nat×LA)->T):T:=br (decide ((↑k:Int)>0)) (br (decide (0<=i64.wrap ((↑k:Int) - 1))&&decide (i64.wrap ((↑k:Int) - 1)<(↑k:Int))) (br (decide (0+(i64.wrap ((↑k:Int) - 1)).toNat<b.length)&&xFz (Sh.int .i64) ((b.getD (0+(i64.wrap ((↑k:Int) - 1)).toNat) .top).cells.getD 1 .top)) (br (((b.getD (0+(i64.wrap ((↑k:Int) - 1)).toNat) .top).cells.getD 1 .top).toInt==n) (κ (true,(k,b),(0,[]))) (xfT k a n b δ κ)) δ) δ) (xfT k a n b δ κ)
def xcO (k:Nat) (a n:Int) (b:LA):=xif k a n b none some
theorem xv7 (k:Nat) (a n:Int) (xs:LA):Enc (fun (p:Bool×(Nat×LA)×(Nat×LA))=>((br p.1 ((AV.osl 0 0 0 p.2.1.1,([⟨0,2,131,p.2.1.2,false,true⟩]:List Box))) ((AV.osl 0 1 0 p.2.2.1,([⟨1,2,131,p.2.2.2,false,true⟩]:List Box)))):(AV×List Box))) (xcO k a n xs) (XFM P0 xhm Tryz.f122 (Tryz.f122.body.getD .skip) [AV.osl (0:Id) 0 0 k,AV.int .i64 a,AV.int .i64 n] [{ ver:=0,sz:=2,ty:=(131:TypeId),xs:=xs,frz:=false,pm:=true }]):=by
 have h:XFM P0 xhm Tryz.f122 (Tryz.f122.body.getD .skip) [AV.osl (0:Id) 0 0 k,AV.int .i64 a,AV.int .i64 n] [{ ver:=0,sz:=2,ty:=(131:TypeId),xs:=xs,frz:=false,pm:=true }]=xif k a n xs none (fun (p:Bool×(Nat×LA)×(Nat×LA))=>some ((br p.1 ((AV.osl 0 0 0 p.2.1.1,([⟨0,2,131,p.2.1.2,false,true⟩]:List Box))) ((AV.osl 0 1 0 p.2.2.1,([⟨1,2,131,p.2.2.2,false,true⟩]:List Box)))):(AV×List Box))):=by kernel_rfl
 rw [h];unfold xcO xif xfT;repeat' (first|refine Enc.br ?_ ?_|exact Enc.none|exact Enc.some rfl)
def xv6:LA->List Box->Option (Bool×AV×List Box):=omOf (xGj (sEq (xGu 0 0 0)) (xGj (sEq (pInt .i64)) (xGj (sEq (pInt .i64)) xGl))) (xGi (xGy 0 2 (131:TypeId) false true xGm) xGk) fun (k,(a,(n,_))) (b,_)=>((xcO k a n b).isSome,(AV.osl 0 1 0 (br ((xcO k a n b).getD (false,(0,[]),(0,[]))).1 ((xcO k a n b).getD (false,(0,[]),(0,[]))).2.1.1 ((xcO k a n b).getD (false,(0,[]),(0,[]))).2.2.1),([⟨1,2,131,(br ((xcO k a n b).getD (false,(0,[]),(0,[]))).1 ((xcO k a n b).getD (false,(0,[]),(0,[]))).2.1.2 ((xcO k a n b).getD (false,(0,[]),(0,[]))).2.2.2),false,true⟩]:List Box)))
theorem xv5:OmOk P0 xGh 122 (xv6):=xkM fun e f j i g=>by
 obtain ⟨k,⟨b,⟨n,_⟩⟩⟩:=e;obtain ⟨h,_⟩:=f;obtain ⟨c,a⟩:=Prod.mk.inj g;have hx:=xv7 _ _ _ _ _ (xcl (d:=(false,(0,[]),(0,[]))) c);revert hx a;generalize ((xcO k b n h).getD (false,(0,[]),(0,[])))=p;intro a hx;obtain ⟨rfl,rfl⟩:=Prod.mk.inj a;obtain ⟨t,⟨l,m⟩,o,q⟩:=p;have hg:GoodM P0 xGh 122 _ _ _ _:=xfX (p:=xhm.pin) (xhL xFK (xFL P0 _) rfl xsC rfl Tryz.func122 rfl (by kernel_rfl) xqq hx)
 cases t
 . exact hg
 . exact GoodM.bump1 rfl (by decide) hg
def xr0:EO:=xut.wM xv5
def xhb (l:LA) (i:Int):=ixI l i
def xkb {T:Type} (l a:LA) (i:Int) (δ:T) (κl:(LA×Int)->T) (κr:(LA)->T):T:=br (decide (i<l.length)) (br (xhb l i) (br (ixT l i 3 [Sh.int .i64,Sh.int .i64] 0) (br (xbq (gC l i 0).toInt (gC l i 1).toInt) (br (xhb l i) (br (ixS l i (Sh.int .i64) 0) (br ((xfy a (gC l i 0).toInt).isSome) (br (xhb l i) (br (ixS l i (Sh.int .i64) 1) (br ((xfy ((xfy a (gC l i 0).toInt).getD []) (gC l i 1).toInt).isSome) (κl ((xfy ((xfy a (gC l i 0).toInt).getD []) (gC l i 1).toInt).getD [],i64.wrap (i+1))) δ) δ) δ) δ) δ) δ) (κl (a,i64.wrap (i+1)))) δ) δ) (κr (a))
def xev (l:LA):StT (LA×Int) (LA):=fun (a,i)=>xkb l a i none inL inR
def xjs:=xr0.l 82 0 [] [] Tryz.f99 0 lk0 [0,3,4] [0,3] [(3,1,1073741824)] (q3 (qL 3) (qL 1) qI) xGk (fun (l,a,i,_) _=>(xev l,(a,i),fun p=>(.leaf (.exit 0) [AV.list 3 l,AV.list 1 p] []))) [] fun (l,_,_,_) _ (a,i)=>(((l,a,i,()),()),xkb l a i none)
def xkc {T:Type} (l b:LA) (c:Nat) (k n i:Int) (a:LA) (δ:T) (κl:(Int×Int×LA)->T) (κr:(Int×LA)->T):T:=br (decide (i<l.length)) (br (ixI l i) (br (ixT l i 3 [Sh.int .i64,Sh.int .i64] 0) (br (ixI b k) (br (ixS b k (Sh.int .i64) 0) (br (xjr (gC l i 0).toInt (gC l i 1).toInt (gC b k 0).toInt) (br (ixI l i) (br (ixS l i (Sh.int .i64) 2) (κl (i64.wrap (n+(gC l i 2).toInt),i64.wrap (i+1),a)) δ) δ) (κl (n,i64.wrap (i+1),a))) δ) δ) δ) δ) (κr (n,a))
def xey (l c:LA) (b:Nat) (k:Int):StT (Int×Int×LA) (Int×LA):=fun (n,i,a)=>xkc l c b k n i a none inL inR
def xjt:=xr0.l 82 0 [] [(3,xjs.lp)] Tryz.f99 2 lk0 [0,3,5,6,7,8] [0,3,5,6,7] [(5,2,131),(3,1,1073741824)] (q6 (qL 3) (qL 1) (xGu 0 0 0) qI qI qI) (q1 (qB 0 2 131 xGm)) (fun (l,c,a,k,n,i,_) (b,_)=>(xey l c a k,(n,i,b),fun p=>(.leaf (.exit 4) [AV.list 3 l,AV.list 1 c,AV.osl 0 0 0 a,AV.int .i64 k,AV.int .i64 p.1] [bF 0 2 131 p.2]))) (0,[]) fun (l,c,a,k,_,_,_) _ (n,i,b)=>(((l,c,a,k,n,i,()),(b,())),xkc l c a k n i b none)
def xhi (l c:LA) (b:Nat) (k:Int) (a:LA):=(Iter (xey l c b k) (0,0,a)).getD (0,[])
def xhh (l c:LA) (a:Nat) (k:Int) (b:LA):=xcO a (gC c k 0).toInt (xhi l c a k b).fst (xhi l c a k b).snd
def xhg (l c:LA) (b:Nat) (k:Int) (a:LA):=(xhh l c b k a).getD (false,(0,[]),0,[])
def xhe (l c:LA) (b:Nat) (k:Int) (a:LA):=(xhg l c b k a).snd
def xhf (l c:LA) (b:Nat) (k:Int) (a:LA):=(xhg l c b k a).fst
def xhc (l c:LA) (b:Nat) (k:Int) (a:LA):=(xhe l c b k a).snd
def xhd (l c:LA) (b:Nat) (k:Int) (a:LA):=(xhe l c b k a).fst
def xia {T:Type} (l c:LA) (b:Nat) (k:Int) (a:LA) (δ:T) (κl:(Nat×Int×LA)->T) (κr:(Nat×LA)->T):T:=br (decide (k<c.length)) (br (ixI c k) (br (ixS c k (Sh.int .i64) 0) (br (decide ((gC c k 0).toInt<1099511627776)) (br ((Iter (xey l c b k) (0,0,a)).isSome) (br (ixI c k) (br (ixS c k (Sh.int .i64) 0) (br ((xhh l c b k a).isSome) (κl (br (xhf l c b k a) (xhd l c b k a).fst (xhc l c b k a).fst,i64.wrap (k+1),br (xhf l c b k a) (xhd l c b k a).snd (xhc l c b k a).snd)) δ) δ) δ) δ) (κr (b,a))) δ) δ) (κr (b,a))
def xew (l c:LA):StT (Nat×Int×LA) (Nat×LA):=fun (b,k,a)=>xia l c b k a none inL inR
def xo9:=xr0.l 82 0 [] [(3,xjs.lp),(14,xjt.lp)] Tryz.f99 1 (lk1 xjt.ok) [0,3,5,6] [5] [(5,2,131),(3,1,1073741824)] (q4 (qL 3) (qL 1) (xGu 0 0 0) qI) (q1 (qB 0 2 131 xGm)) (fun (l,c,b,k,_) (a,_)=>(xew l c,(b,k,a),fun p=>(.leaf (.exit 2) [AV.osl 0 0 0 p.1] [bF 0 2 131 p.2]))) (0,[]) fun (l,c,_,_,_) _ (b,k,a)=>(((l,c,b,k,()),(a,())),xia l c b k a none)
def xoK (l:LA):=Iter (xew l ((Iter (xev l) ([AV.int .i64 0],0)).getD [])) (0,0,[])
def xoJ (l:LA):=(xoK l).getD (0,[])
def xoH (l:LA):=(xoJ l).fst
def xoI (l:LA):=(xoJ l).snd
def xpr {T:Type} (l:LA) (δ:T) (κ:LA->T):T:=br ((Iter (xev l) ([AV.int .i64 0],0)).isSome) (br ((xoK l).isSome) (br (decide (0+xoH l<=(xoI l).length)&&true) (κ (List.take (xoH l) (List.drop 0 (xoI l)))) δ) δ) δ
def xrQ (l:LA):=xpr l none some
def xzn:EO:=xr0.f Tryz.func99 82 0 [] [(3,xjs.lp),(14,xjt.lp),(10,xo9.lp)] (lks (lkC xjs.ok (lkC xo9.ok (lkC xjt.ok lkN)))) (u1 (uL 3)) (fun (l,_) _=>xpr l) (fun _ p=>AV.list 2 p) []
def xgW {T:Type} (l c:LA) (b:Nat) (i:Int) (a:LA) (δ:T) (κl:(Nat×Int×LA)->T) (κr:(Nat×LA)->T):T:=br (decide (i<l.length)) (br (ixI l i) (br (ixS l i (Sh.list 3) 0) (br ((xa7 (gC l i 0).toList c).isSome) (br ((xa7 (gC l i 0).toList c).getD 0==0) (br (ixI l i) (br (ixT l i 3 [Sh.int .i64,Sh.int .i64] 1) (br (rmB b a 1 24) (κl (b+1,i64.wrap (i+1),a++[AV.agg [AV.int .i64 (gC l i 1).toInt,AV.int .i64 (gC l i 2).toInt,AV.int .i64 1]])) δ) δ) δ) (κl (b,i64.wrap (i+1),a))) δ) δ) δ) (κr (b,a))
def xc2 (l b:LA):StT (Nat×Int×LA) (Nat×LA):=fun (c,i,a)=>xgW l b c i a none inL inR
def xm5:=xzn.l 32 0 [] [] Tryz.f84 0 lk0 [0,1,5,6] [5] [(5,3,136)] (q4 (qL 3) (qL 3) (xGu 0 0 0) qI) (q1 (qB 0 3 136 xGm)) (fun (l,b,c,i,_) (a,_)=>(xc2 l b,(c,i,a),fun p=>(.leaf (.exit 0) [AV.osl 0 0 0 p.1] [bF 0 3 136 p.2]))) (0,[]) fun (l,b,_,_,_) _ (c,i,a)=>(((l,b,c,i,()),(a,())),xgW l b c i a none)
def xlA (l a:LA):=(Iter (xc2 l a) (0,0,[])).getD (0,[])
def xly (l a:LA):=(xlA l a).snd
def xlz (l a:LA):=(xlA l a).fst
def xlw (l a:LA):=xrQ (List.take (xlz l a) (List.drop 0 (xly l a)))
def xmo {T:Type} (l a:LA) (δ:T) (κ:LA->T):T:=br ((Iter (xc2 l a) (0,0,[])).isSome) (br (decide (0+xlz l a<=(xly l a).length)&&true) (br ((xlw l a).isSome) (κ ((xlw l a).getD [])) δ) δ) δ
def xlv (l a:LA):=xmo l a none some
def xr1:EO:=xzn.f Tryz.func84 32 0 [] [(3,xm5.lp)] (lk1 xm5.ok) (u2 (uL 3) (uL 3)) (fun (l,a,_) _=>xmo l a) (fun _ p=>AV.list 2 p) []
def xe4 {T:Type} (a:LA) (c:Nat) (i k:Int) (b:LA) (δ:T) (κl:(Int×LA)->T) (κr:(Int×LA)->T):T:=br (decide (k<a.length)) (br (ixI a k) (br (ixS a k (Sh.list 3) 0) (br (ixI a i) (br (ixS a i (Sh.list 3) 0) (br ((xa7 (gC a k 0).toList (gC a i 0).toList).isSome) (br ((xa7 (gC a k 0).toList (gC a i 0).toList).getD 0==0) (κl (i64.wrap (k+1),b)) (κr (k,b))) δ) δ) δ) δ) δ) (κr (k,b))
def xbJ (c:LA) (b:Nat) (i:Int):StT (Int×LA) (Int×LA):=fun (k,a)=>xe4 c b i k a none inL inR
def xeJ:=xr1.l 66 0 [] [] Tryz.f62 1 lk0 [3,4,5,6] [3,4,5,6] [(4,2,96)] (q4 (qL 3) (xGu 0 0 0) qI qI) (q1 (qB 0 2 96 xGm)) (fun (c,a,i,k,_) (b,_)=>(xbJ c a i,(k,b),fun p=>(.leaf (.exit 2) [AV.list 3 c,AV.osl 0 0 0 a,AV.int .i64 i,AV.int .i64 p.1] [bF 0 2 96 p.2]))) (0,[]) fun (c,a,i,_,_) _ (k,b)=>(((c,a,i,k,()),(b,())),xe4 c a i k b none)
def xe5 {T:Type} (d:LA) (i k:Int) (a:LA) (c:Nat) (n:Int) (b:LA) (δ:T) (κl:(Nat×Int×LA)->T) (κr:(Nat×LA)->T):T:=br (decide (n<a.length)) (br (ixI a n) (br (ixS a n (Sh.list 3) 0) (br (decide (0<=k)&&decide (k<=d.length)&&(decide (0<=i)&&decide (i<=(↑k.toNat:Int)))) (br (ixI a n) (br (ixS a n (Sh.list 3) 0) (br ((xlv (List.take (k.toNat - i.toNat) (List.drop i.toNat d)) (gC a n 0).toList).isSome) (br (rmB c b 1 48) (κl (c+1,i64.wrap (n+1),b++[AV.agg [AV.list 3 (gC a n 0).toList,AV.list 2 ((xlv (List.take (k.toNat - i.toNat) (List.drop i.toNat d)) (gC a n 0).toList).getD [])]])) δ) δ) δ) δ) δ) δ) δ) (κr (c,b))
def xc4 (d:LA) (i k:Int) (c:LA):StT (Nat×Int×LA) (Nat×LA):=fun (b,n,a)=>xe5 d i k c b n a none inL inR
def xgd:=xr1.l 66 0 [] [(6,xeJ.lp)] Tryz.f62 2 lk0 [3,4,5,6,7,8] [3,4,6] [(4,2,96)] (q6 (qL 3) (xGu 0 0 0) qI qI (qL 1) qI) (q1 (qB 0 2 96 xGm)) (fun (d,b,i,k,c,n,_) (a,_)=>(xc4 d i k c,(b,n,a),fun p=>(.leaf (.exit 4) [AV.list 3 d,AV.osl 0 0 0 p.1,AV.int .i64 k] [bF 0 2 96 p.2]))) (0,[]) fun (d,_,i,k,c,_,_) _ (b,n,a)=>(((d,b,i,k,c,n,()),(a,())),xe5 d i k c b n a none)
def xb5 (c:LA) (b:Nat) (i:Int) (a:LA):=((Iter (xbJ c b i) (i,a)).getD (0,[])).fst
def xix (c:LA) (a:Nat) (i:Int) (b:LA):=Iter (xc4 c i (xb5 c a i b) ((xnI (List.take ((xb5 c a i b).toNat - i.toNat) (List.drop i.toNat c))).getD [])) (a,0,((Iter (xbJ c a i) (i,b)).getD (0,[])).snd)
def xiZ (c:LA) (b:Nat) (i:Int) (a:LA):=(xix c b i a).getD (0,[])
def xgY {T:Type} (c:LA) (b:Nat) (i:Int) (a:LA) (δ:T) (κl:(Nat×Int×LA)->T) (κr:(Nat×LA)->T):T:=br (decide (i<c.length)) (br ((Iter (xbJ c b i) (i,a)).isSome) (br (decide (0<=xb5 c b i a)&&decide (xb5 c b i a<=c.length)&&(decide (0<=i)&&decide (i<=(↑(xb5 c b i a).toNat:Int)))) (br ((xnI (List.take ((xb5 c b i a).toNat - i.toNat) (List.drop i.toNat c))).isSome) (br ((xix c b i a).isSome) (κl ((xiZ c b i a).fst,xb5 c b i a,(xiZ c b i a).snd)) δ) δ) δ) δ) (κr (b,a))
def xc3 (c:LA):StT (Nat×Int×LA) (Nat×LA):=fun (b,i,a)=>xgY c b i a none inL inR
def xm7:=xr1.l 66 0 [] [(6,xeJ.lp),(10,xgd.lp)] Tryz.f62 0 (lks (lkC xeJ.ok (lkC xgd.ok lkN))) [3,4,5] [4] [(4,2,96)] (q3 (qL 3) (xGu 0 0 0) qI) (q1 (qB 0 2 96 xGm)) (fun (c,b,i,_) (a,_)=>(xc3 c,(b,i,a),fun p=>(.leaf (.exit 0) [AV.osl 0 0 0 p.1] [bF 0 2 96 p.2]))) (0,[]) fun (c,_,_,_) _ (b,i,a)=>(((c,b,i,()),(a,())),xgY c b i a none)
def xlH (l:LA):=Iter (xc3 ((xbK 100 l).getD [])) (0,0,[])
def xlG (l:LA):=(xlH l).getD (0,[])
def xlE (l:LA):=(xlG l).snd
def xlF (l:LA):=(xlG l).fst
def xmq {T:Type} (l:LA) (δ:T) (κ:LA->T):T:=br ((xbK 100 l).isSome) (br ((xlH l).isSome) (br (decide (0+xlF l<=(xlE l).length)&&true) (κ (List.take (xlF l) (List.drop 0 (xlE l)))) δ) δ) δ
def xiY (l:LA):=xmq l none some
def xzo:EO:=xr1.f Tryz.func62 66 0 [] [(6,xeJ.lp),(10,xgd.lp),(4,xm7.lp)] (lks (lkC xm7.ok (lkC xeJ.ok (lkC xgd.ok lkN)))) (u1 (uL 3)) (fun (l,_) _=>xmq l) (fun _ p=>AV.list 2 p) []
def xdo (l:LA) (n i:Int):=decide ((gC l i 1).toInt>=n)
def xbI (l:LA) (i:Int):=ixI l i
def xcZ (l:LA) (b:Nat) (i:Int) (a:LA):=(xbV b (gC l i 0).toInt 1099511627776 a).getD (false,(0,[],[]),0,[])
def xcx (l:LA) (b:Nat) (i:Int) (a:LA):=xbV b (gC l i 0).toInt ((l.getD (i64.wrap (i+1)).toNat .top).cells.getD 0 .top).toInt a
def xc0 (l:LA) (i:Int):=decide (i64.wrap (i+1)<(↑l.length:Int))
def xdv (l:LA) (b:Nat) (i:Int) (a:LA):=(xcx l b i a).getD (false,(0,[],[]),0,[])
def xdw (l:LA) (b:Nat) (i:Int) (a:LA):=(xcZ l b i a).snd
def xdy (l:LA) (b:Nat) (i:Int) (a:LA):=(xcZ l b i a).fst
def xdr (l:LA) (b:Nat) (i:Int) (a:LA):=(xdv l b i a).snd
def xds (l:LA) (b:Nat) (i:Int) (a:LA):=(xdv l b i a).fst
def xdt (l:LA) (b:Nat) (i:Int) (a:LA):=(xdw l b i a).fst
def xdu (l:LA) (b:Nat) (i:Int) (a:LA):=(xdw l b i a).snd
def xdp (l:LA) (b:Nat) (i:Int) (a:LA):=(xdr l b i a).snd
def xdq (l:LA) (b:Nat) (i:Int) (a:LA):=(xdr l b i a).fst
def xcN {T:Type} (l:LA) (n:Int) (b:Nat) (i:Int) (a:LA) (δ:T) (κl:(Nat×Int×LA)->T) (κr:(Nat×LA)->T):T:=br (decide (i<l.length)) (br (xc0 l i) (br (decide (0<=i64.wrap (i+1))&&xc0 l i) (br (decide ((i64.wrap (i+1)).toNat<l.length)&&xFz (Sh.int .i64) ((l.getD (i64.wrap (i+1)).toNat .top).cells.getD 0 .top)) (br (xbI l i) (br (ixS l i (Sh.int .i64) 1) (br (xdo l n i) (br (xbI l i) (br (ixS l i (Sh.int .i64) 0) (br ((xcx l b i a).isSome) (κl (br (xds l b i a) (xdq l b i a).fst (xdp l b i a).fst,i64.wrap (i+1),br (xds l b i a) (xdq l b i a).snd.snd (xdp l b i a).snd)) δ) δ) δ) (κl (b,i64.wrap (i+1),a))) δ) δ) δ) δ) (br (xbI l i) (br (ixS l i (Sh.int .i64) 1) (br (xdo l n i) (br (xbI l i) (br (ixS l i (Sh.int .i64) 0) (br ((xbV b (gC l i 0).toInt 1099511627776 a).isSome) (κl (br (xdy l b i a) (xdt l b i a).fst (xdu l b i a).fst,i64.wrap (i+1),br (xdy l b i a) (xdt l b i a).snd.snd (xdu l b i a).snd)) δ) δ) δ) (κl (b,i64.wrap (i+1),a))) δ) δ)) (κr (b,a))
def xa5 (l:LA) (n:Int):StT (Nat×Int×LA) (Nat×LA):=fun (b,i,a)=>xcN l n b i a none inL inR
def xl3:=xzo.l 42 0 [] [] Tryz.f85 0 lk0 [0,1,5,6] [5] [(5,2,56)] (q4 (qL 2) qI (xGu 0 0 0) qI) (q1 (qB 0 2 56 xGm)) (fun (l,n,b,i,_) (a,_)=>(xa5 l n,(b,i,a),fun p=>(.leaf (.exit 0) [AV.osl 0 0 0 p.1] [bF 0 2 56 p.2]))) (0,[]) fun (l,n,_,_,_) _ (b,i,a)=>(((l,n,b,i,()),(a,())),xcN l n b i a none)
def xky (l:LA) (n:Int):=(Iter (xa5 l n) (0,0,[])).getD (0,[])
def xkv (l:LA) (n:Int):=(xky l n).snd
def xkw (l:LA) (n:Int):=(xky l n).fst
def xlh {T:Type} (l:LA) (n:Int) (δ:T) (κ:LA->T):T:=br ((Iter (xa5 l n) (0,0,[])).isSome) (br (decide (0+xkw l n<=(xkv l n).length)&&true) (κ (List.take (xkw l n) (List.drop 0 (xkv l n)))) δ) δ
def xee (l:LA) (n:Int):=xlh l n none some
def xzp:EO:=xzo.f Tryz.func85 42 0 [] [(3,xl3.lp)] (lk1 xl3.ok) (u2 (uL 2) uI) (fun (l,n,_) _=>xlh l n) (fun _ p=>AV.list 2 p) []
def xgV (l:LA) (i:Int):=decide (i.toNat<l.length)&&((l.getD i.toNat .top).cells.length==2&&xFG [Sh.int .i64,Sh.int .i64] (l.getD i.toNat .top).cells 0)
def xfB {T:Type} (l:LA) (b:Nat) (i c d:Int) (a:LA) (δ:T) (κl:(Nat×Int×Int×Int×LA)->T) (κr:(Nat×Int×Int×Int×LA)->T):T:=br (decide (i<l.length)) (br (ixI l i) (br (xgV l i) (br (decide (xj7 (gC l i 0).toInt (gC l i 1).toInt c d<=0)) (br (ixI l i) (br (xgV l i) (br (rmB b a 1 16) (κl (b+1,i64.wrap (i+1),c,d,a++[AV.agg [AV.int .i64 (gC l i 0).toInt,AV.int .i64 (gC l i 1).toInt]])) δ) δ) δ) (κr (b,i,c,d,a))) δ) δ) (κr (b,i,c,d,a))
def xco (l:LA):StT (Nat×Int×Int×Int×LA) (Nat×Int×Int×Int×LA):=fun (b,i,c,d,a)=>xfB l b i c d a none inL inR
def xny:=xzp.l 38 0 [] [] Tryz.f86 0 lk0 [0,3,5,6] [0,3,5,6] [(5,2,56)] (q4 (qL 2) (xGv 0 0 0 0) (xGu 1 0 0) qI) (q2 (qB 0 2 56 (q1 (xGw (q2 qI qI)))) (qB 0 2 56 xGm)) (fun (l,_,b,i,_) (((c,d,_),_),a,_)=>(xco l,(b,i,c,d,a),fun p=>(.leaf (.exit 0) [AV.list 2 l,AV.own 0 0 0 0,AV.osl 1 0 0 p.1,AV.int .i64 p.2.1] [bF 0 2 56 [AV.agg [AV.int .i64 p.2.2.1,AV.int .i64 p.2.2.2.1]],bF 0 2 56 p.2.2.2.2]))) (0,0,0,0,[]) fun (l,_,_,_,_) _ (b,i,c,d,a)=>(((l,(),b,i,()),(((c,d,()),()),a,())),xfB l b i c d a none)
def xlm (l:LA) (a b:Int):=Iter (xco l) (0,0,a,b,[])
def xll (l:LA) (a b:Int):=(xlm l a b).getD (0,0,0,0,[])
def xmk (l:LA) (a b:Int):=(xll l a b).snd
def xlk (l:LA) (a b:Int):=(xll l a b).fst
def xhk (l:LA) (a b:Int):=xlk l a b+1
def xhl (l:LA) (a b:Int):=(xmk l a b).fst
def xmj (l:LA) (a b:Int):=(xmk l a b).snd
def xmg (l:LA) (a b:Int):=List.take (l.length - (xhl l a b).toNat) (List.drop (xhl l a b).toNat l)
def xmi (l:LA) (a b:Int):=(xmj l a b).snd
def xhj (l:LA) (a b:Int):=xhk l a b+(xmg l a b).length
def xmh (l:LA) (a b:Int):=(xmi l a b).snd
def xmf (l:LA) (a b:Int):=xmh l a b++[AV.agg [AV.int .i64 (xmj l a b).fst,AV.int .i64 (xmi l a b).fst]]
def xme (l:LA) (a b:Int):=xmf l a b++xmg l a b
def xni {T:Type} (l:LA) (a b:Int) (δ:T) (κ:LA->T):T:=br ((xlm l a b).isSome) (br (xlk l a b==(xmh l a b).length&&(decide (xhk l a b*16<=140737488355328)&&decide (xhk l a b<=4611686018427387904))) (br (decide (0<=xhl l a b)&&decide (xhl l a b<=l.length)) (br (xhk l a b==(xmf l a b).length&&(decide (xhj l a b*16<=140737488355328)&&decide (xhj l a b<=4611686018427387904))) (br (decide (0+xhj l a b<=(xme l a b).length)&&true) (κ (List.take (xhj l a b) (List.drop 0 (xme l a b)))) δ) δ) δ) δ) δ
def xmN (l:LA) (a b:Int):=xni l a b none some
def xuu:EO:=xzp.f Tryz.func86 38 0 [] [(3,xny.lp)] (lk1 xny.ok) (u2 (uL 2) (xGA (u2 uI uI))) (fun (l,(a,b,_),_) _=>xni l a b) (fun _ p=>AV.list 2 p) []
def xgU {T:Type} (l:LA) (n:Int) (a b:LA) (i:Int) (δ:T) (κl:(LA×Int)->T) (κr:(LA)->T):T:=br (decide (i<a.length)) (br (ixI a i) (br (ixT a i 2 [Sh.int .i64,Sh.int .i64] 0) (br ((xmN b (gC a i 0).toInt (gC a i 1).toInt).isSome) (κl ((xmN b (gC a i 0).toInt (gC a i 1).toInt).getD [],i64.wrap (i+1))) δ) δ) δ) (κr (b))
def xcc (l:LA) (n:Int) (b:LA):StT (LA×Int) (LA):=fun (a,i)=>xgU l n b a i none inL inR
def xga:=xuu.l 31 0 [] [] Tryz.f64 1 lk0 [0,3,4,5,6] [0,3,4] [(3,2,1073741824)] (q5 (qL 2) (qL 2) qI (qL 2) qI) xGk (fun (l,a,n,b,i,_) _=>(xcc l n b,(a,i),fun p=>(.leaf (.exit 2) [AV.list 2 l,AV.list 2 p,AV.int .i64 n] []))) [] fun (l,_,n,b,_,_) _ (a,i)=>(((l,a,n,b,i,()),()),xgU l n b a i none)
def xgT {T:Type} (l a:LA) (n:Int) (δ:T) (κl:(LA×Int)->T) (κr:(Bool×(LA×LA)×(LA))->T):T:=br (decide (n<=1048576)) (br ((xee l n).isSome) (br ((↑((xee l n).getD []).length:Int)==0) (κr (true,(a,a),[])) (br ((Iter (xcc l n ((xee l n).getD [])) (a,0)).isSome) (κl ((Iter (xcc l n ((xee l n).getD [])) (a,0)).getD [],i64.wrap (n+1))) δ)) δ) (κr (false,([],[]),(a)))
def xcb (l:LA):StT (LA×Int) (Bool×(LA×LA)×(LA)):=fun (a,n)=>xgT l a n none inL inR
def xmX:=xuu.l 31 0 [] [(9,xga.lp)] Tryz.f64 0 (lk1 xga.ok) [0,3,4] [2,3] [(3,2,1073741824)] (q3 (qL 2) (qL 2) qI) xGk (fun (l,a,n,_) _=>(xcb l,(a,n),fun p=>(.node p.1 (.leaf .ret [AV.list 2 p.2.1.1,AV.list 2 p.2.1.2] []) (.leaf (.exit 0) [.top,AV.list 2 p.2.2] [])))) (false,([],[]),[]) fun (l,_,_,_) _ (a,n)=>(((l,a,n,()),()),xgT l a n none)
def xlj (l:LA):=(Iter (xcb l) ([],1)).getD (false,([],[]),[])
def xli (l:LA):=(xlj l).snd
def xmd {T:Type} (l:LA) (δ:T) (κ:LA->T):T:=br ((Iter (xcb l) ([],1)).isSome) (br ((xlj l).fst) (κ ((xli l).fst.fst)) (κ ((xli l).snd))) δ
def xd5 (l:LA):=xmd l none some
def xzq:EO:=xuu.f Tryz.func64 31 0 [] [(9,xga.lp),(3,xmX.lp)] (lks (lkC xmX.ok (lkC xga.ok lkN))) (u1 (uL 2)) (fun (l,_) _=>xmd l) (fun _ p=>AV.list 2 p) []
def xgX {T:Type} (d c:LA) (b:Nat) (i:Int) (a:LA) (δ:T) (κl:(Nat×Int×LA)->T) (κr:(Nat×LA)->T):T:=br (decide (i<c.length)) (br (ixI c i) (br (ixT c i 2 [Sh.int .i64,Sh.int .i64] 0) (br (rmB b a 1 40) (κl (b+1,i64.wrap (i+1),a++[AV.agg [AV.list 3 d,AV.int .i64 (gC c i 0).toInt,AV.int .i64 (gC c i 1).toInt]])) δ) δ) δ) (κr (b,a))
def xcd (c d:LA):StT (Nat×Int×LA) (Nat×LA):=fun (b,i,a)=>xgX c d b i a none inL inR
def xm6:=xzq.l 23 0 [] [] Tryz.f63 0 lk0 [0,1,5,6] [5] [(5,3,60)] (q4 (qL 3) (qL 2) (xGu 0 0 0) qI) (q1 (qB 0 3 60 xGm)) (fun (c,d,b,i,_) (a,_)=>(xcd c d,(b,i,a),fun p=>(.leaf (.exit 0) [AV.osl 0 0 0 p.1] [bF 0 3 60 p.2]))) (0,[]) fun (c,d,_,_,_) _ (b,i,a)=>(((c,d,b,i,()),(a,())),xgX c d b i a none)
def xlD (a b:LA):=(Iter (xcd a b) (0,0,[])).getD (0,[])
def xlB (a b:LA):=(xlD a b).fst
def xlC (a b:LA):=(xlD a b).snd
def xmp {T:Type} (a b:LA) (δ:T) (κ:LA->T):T:=br ((Iter (xcd a b) (0,0,[])).isSome) (br (decide (0+xlB a b<=(xlC a b).length)&&true) (κ (List.take (xlB a b) (List.drop 0 (xlC a b)))) δ) δ
def xiX (a b:LA):=xmp a b none some
def xzr:EO:=xzq.f Tryz.func63 23 0 [] [(3,xm6.lp)] (lk1 xm6.ok) (u2 (uL 3) (uL 2)) (fun (a,b,_) _=>xmp a b) (fun _ p=>AV.list 3 p) []
def xis (g:LA) (a:Nat) (i:Int):=a+((xiX (gC g i 0).toList ((xd5 (gC g i 1).toList).getD [])).getD []).length
def xju {T:Type} (g:LA) (a:Nat) (i:Int) (b:LA) (δ:T) (κl:(Nat×Int×LA)->T) (κr:(Nat×LA)->T):T:=br (decide (i<g.length)) (br (ixI g i) (br (ixS g i (Sh.list 3) 0) (br (ixI g i) (br (ixS g i (Sh.list 2) 1) (br ((xd5 (gC g i 1).toList).isSome) (br ((xiX (gC g i 0).toList ((xd5 (gC g i 1).toList).getD [])).isSome) (br (a==b.length&&(decide (xis g a i*40<=140737488355328)&&decide (xis g a i<=4611686018427387904))) (κl (xis g a i,i64.wrap (i+1),b++(xiX (gC g i 0).toList ((xd5 (gC g i 1).toList).getD [])).getD [])) δ) δ) δ) δ) δ) δ) δ) (κr (a,b))
def xeb (g:LA):StT (Nat×Int×LA) (Nat×LA):=fun (b,i,a)=>xju g b i a none inL inR
def xot:=xzr.l 29 0 [] [] Tryz.f30 0 lk0 [3,4,5] [4] [(4,3,60)] (q3 (qL 2) (xGu 0 0 0) qI) (q1 (qB 0 3 60 xGm)) (fun (g,b,i,_) (a,_)=>(xeb g,(b,i,a),fun p=>(.leaf (.exit 0) [AV.osl 0 0 0 p.1] [bF 0 3 60 p.2]))) (0,[]) fun (g,_,_,_) _ (b,i,a)=>(((g,b,i,()),(a,())),xju g b i a none)
def xn8 (l:LA):=(Iter (xeb ((xiY l).getD [])) (0,0,[])).getD (0,[])
def xn6 (l:LA):=(xn8 l).snd
def xn7 (l:LA):=(xn8 l).fst
def xoM {T:Type} (l:LA) (δ:T) (κ:LA->T):T:=br ((xiY l).isSome) (br ((Iter (xeb ((xiY l).getD [])) (0,0,[])).isSome) (br (decide (0+xn7 l<=(xn6 l).length)&&true) (κ (List.take (xn7 l) (List.drop 0 (xn6 l)))) δ) δ) δ
def xm4 (l:LA):=xoM l none some
def xzs:EO:=xzr.f Tryz.func30 29 0 [] [(4,xot.lp)] (lk1 xot.ok) (u1 (uL 3)) (fun (l,_) _=>xoM l) (fun _ p=>AV.list 3 p) []
def xjv {T:Type} (l:LA) (i:Int) (δ:T) (κl:(Int)->T) (κr:(Bool×(Bool)×(Unit))->T):T:=br (decide (i<l.length)) (br (ixI l i) (br (ixS l i (Sh.list 3) 0) (br (decide ((↑(gC l i 0).toList.length:Int)>60)) (κr (true,(false),())) (κl (i64.wrap (i+1)))) δ) δ) (κr (false,false,()))
def xcn (l:LA):StT (Int) (Bool×(Bool)×(Unit)):=fun (i)=>xjv l i none inL inR
def xov:=xzs.l 23 0 [] [] Tryz.f16 0 lk0 [0,5] [4] [] (q2 (qL 3) qI) xGk (fun (l,i,_) _=>(xcn l,(i),fun p=>(.node p.1 (.leaf .ret [AV.bool p.2.1] []) (.leaf (.exit 0) [.top] [])))) (false,false,()) fun (l,_,_) _ (i)=>(((l,i,()),()),xjv l i none)
def xoN {T:Type} (l:LA) (a:Int) (δ:T) (κ:Bool->T):T:=br (decide ((↑l.length:Int)>a)) (κ (false)) (br ((Iter (xcn l) 0).isSome) (br (((Iter (xcn l) 0).getD (false,false,())).fst) (κ (((Iter (xcn l) 0).getD (false,false,())).snd.fst)) (κ (true))) δ)
def xou (l:LA) (a:Int):=xoN l a none some
def xzt:EO:=xzs.f Tryz.func16 23 0 [] [(4,xov.lp)] (lk1 xov.ok) (u2 (uL 3) uI) (fun (l,a,_) _=>xoN l a) (fun _ p=>AV.bool p) false
def xh1 {T:Type} (l:LA) (b:Nat) (i:Int) (a:LA) (δ:T) (κl:(Nat×Int×LA)->T) (κr:(Nat×LA)->T):T:=br (decide (i<l.length)) (br (ixI l i) (br (ixS l i (Sh.list 3) 2) (br (ixI l i) (br (ixT l i 9 [Sh.int .i64,Sh.int .i64] 3) (br (rmB b a 1 40) (κl (b+1,i64.wrap (i+1),a++[AV.agg [AV.list 3 (gC l i 2).toList,AV.int .i64 (gC l i 3).toInt,AV.int .i64 (gC l i 4).toInt]])) δ) δ) δ) δ) δ) (κr (b,a))
def xdA (l:LA):StT (Nat×Int×LA) (Nat×LA):=fun (b,i,a)=>xh1 l b i a none inL inR
def xnz:=xzt.l 26 0 [] [] Tryz.f34 0 lk0 [0,3,4] [3] [(3,3,60)] (q3 (qL 9) (xGu 0 0 0) qI) (q1 (qB 0 3 60 xGm)) (fun (l,b,i,_) (a,_)=>(xdA l,(b,i,a),fun p=>(.leaf (.exit 0) [AV.osl 0 0 0 p.1] [bF 0 3 60 p.2]))) (0,[]) fun (l,_,_,_) _ (b,i,a)=>(((l,b,i,()),(a,())),xh1 l b i a none)
def xmu (l:LA):=(Iter (xdA l) (0,0,[])).getD (0,[])
def xms (l:LA):=(xmu l).snd
def xmt (l:LA):=(xmu l).fst
def xno {T:Type} (l:LA) (δ:T) (κ:LA->T):T:=br ((Iter (xdA l) (0,0,[])).isSome) (br (decide (0+xmt l<=(xms l).length)&&true) (κ (List.take (xmt l) (List.drop 0 (xms l)))) δ) δ
def xjR (l:LA):=xno l none some
def xDo:EO:=xzt.f Tryz.func34 26 0 [] [(3,xnz.lp)] (lk1 xnz.ok) (u1 (uL 9)) (fun (l,_) _=>xno l) (fun _ p=>AV.list 3 p) []
def xnJ (c d:Int) (g:LA) (h i b a e f:Int):Bool:=(br (xbq b a) ((a==1099511627776)) ((false)))
def xvr {T:Type} (c d:Int) (g:LA) (h i b a e f:Int) (δ:T) (κ:Bool->T):T:=br (xbq b a) (κ (a==1099511627776)) (κ (false))
def xC7:EO:=xDo.fT Tryz.func28 12 0 [] [] lk0 (fun ((a,b,g,h,i,c,d,e,f,_),_)=>xvr a b g h i c d e f none) (u1 (xGA (xGj uI (xGj uI (u7 (uL 3) uI uI uI uI uI uI))))) (fun ((a,b,g,h,i,c,d,e,f,_),_)=>xnJ a b g h i c d e f) (fun _ p=>(AV.bool p))
def xpw (d e:Int) (a:LA) (b c f g h i:Int):LA×Int×Int:=((a,b,c))
def xvs {T:Type} (d e:Int) (a:LA) (b c f g h i:Int) (δ:T) (κ:LA×Int×Int->T):T:=κ (a,b,c)
def xzd:EO:=xC7.fT Tryz.func39 8 0 [] [] lk0 (fun ((a,b,g,h,i,c,d,e,f,_),_)=>xvs a b g h i c d e f none) (u1 (xGA (xGj uI (xGj uI (u7 (uL 3) uI uI uI uI uI uI))))) (fun ((a,b,g,h,i,c,d,e,f,_),_)=>xpw a b g h i c d e f) (fun _ p=>(AV.agg [AV.list 3 p.1,AV.int .i64 p.2.1,AV.int .i64 p.2.2]))
def xg3 (l:LA) (i:Int):=(xpw (gC l i 0).toInt (gC l i 1).toInt (gC l i 2).toList (gC l i 3).toInt (gC l i 4).toInt (gC l i 5).toInt (gC l i 6).toInt (gC l i 7).toInt (gC l i 8).toInt).snd
def xg4 (l:LA) (i:Int):=decide (i.toNat<l.length)&&((l.getD i.toNat .top).cells.length==9&&xFG [Sh.int .i64,Sh.int .i64,Sh.list 3,Sh.int .i64,Sh.int .i64,Sh.int .i64,Sh.int .i64,Sh.int .i64,Sh.int .i64] (l.getD i.toNat .top).cells 0)
def xh4 {T:Type} (l:LA) (b:Nat) (i:Int) (a:LA) (δ:T) (κl:(Nat×Int×LA)->T) (κr:(Nat×LA)->T):T:=br (decide (i<l.length)) (br (ixI l i) (br (xg4 l i) (br (xnJ (gC l i 0).toInt (gC l i 1).toInt (gC l i 2).toList (gC l i 3).toInt (gC l i 4).toInt (gC l i 5).toInt (gC l i 6).toInt (gC l i 7).toInt (gC l i 8).toInt) (br (ixI l i) (br (xg4 l i) (br (rmB b a 1 40) (κl (b+1,i64.wrap (i+1),a++[AV.agg [AV.list 3 (gC l i 2).toList,AV.int .i64 (xg3 l i).fst,AV.int .i64 (xg3 l i).snd]])) δ) δ) δ) (κl (b,i64.wrap (i+1),a))) δ) δ) (κr (b,a))
def xdB (l:LA):StT (Nat×Int×LA) (Nat×LA):=fun (b,i,a)=>xh4 l b i a none inL inR
def xnB:=xzd.l 26 0 [] [] Tryz.f13 0 lk0 [0,3,4] [3] [(3,3,60)] (q3 (qL 9) (xGu 0 0 0) qI) (q1 (qB 0 3 60 xGm)) (fun (l,b,i,_) (a,_)=>(xdB l,(b,i,a),fun p=>(.leaf (.exit 0) [AV.osl 0 0 0 p.1] [bF 0 3 60 p.2]))) (0,[]) fun (l,_,_,_) _ (b,i,a)=>(((l,b,i,()),(a,())),xh4 l b i a none)
def xmz (l:LA):=(Iter (xdB l) (0,0,[])).getD (0,[])
def xmw (l:LA):=(xmz l).fst
def xmy (l:LA):=(xmz l).snd
def xmv (l:LA):=xm4 (List.take (xmw l) (List.drop 0 (xmy l)))
def xnq {T:Type} (l:LA) (δ:T) (κ:LA->T):T:=br ((Iter (xdB l) (0,0,[])).isSome) (br (decide (0+xmw l<=(xmy l).length)&&true) (br ((xmv l).isSome) (κ ((xmv l).getD [])) δ) δ) δ
def xjS (l:LA):=xnq l none some
def xC8:EO:=xzd.f Tryz.func13 26 0 [] [(3,xnB.lp)] (lk1 xnB.ok) (u1 (uL 9)) (fun (l,_) _=>xnq l) (fun _ p=>AV.list 3 p) []
def xkd (d e:Int) (i:LA) (g h f b c a:Int):Bool:=(br (decide (d<1)) ((true)) (br (decide (c<1)) ((true)) (br (decide (e<0)) ((true)) (br (decide (a<0)) ((true)) (br (!xbq g h) ((true)) (br (!xbq f b) ((true)) (br (a != 0) (br (decide (a<=c)) ((true)) ((b==1099511627776))) ((false)))))))))
def xsI {T:Type} (d e:Int) (i:LA) (g h f b c a:Int) (δ:T) (κ:Bool->T):T:=br (decide (d<1)) (κ (true)) (br (decide (c<1)) (κ (true)) (br (decide (e<0)) (κ (true)) (br (decide (a<0)) (κ (true)) (br (!xbq g h) (κ (true)) (br (!xbq f b) (κ (true)) (br (a != 0) (br (decide (a<=c)) (κ (true)) (κ (b==1099511627776))) (κ (false))))))))
def xC9:EO:=xC8.fT Tryz.func44 49 0 [] [] lk0 (fun ((a,b,g,h,i,c,d,e,f,_),_)=>xsI a b g h i c d e f none) (u1 (xGA (xGj uI (xGj uI (u7 (uL 3) uI uI uI uI uI uI))))) (fun ((a,b,g,h,i,c,d,e,f,_),_)=>xkd a b g h i c d e f) (fun _ p=>(AV.bool p))
def xoO (a g:Int) (o:LA) (e p b h i j c k:Int) (q:LA) (f r d l m n:Int):Bool:=(br (a != c) ((decide (a<c))) (br (b != d) ((decide (b<d))) ((decide (e<f)))))
def xuk {T:Type} (a g:Int) (o:LA) (e p b h i j c k:Int) (q:LA) (f r d l m n:Int) (δ:T) (κ:Bool->T):T:=br (a != c) (κ (decide (a<c))) (br (b != d) (κ (decide (b<d))) (κ (decide (e<f))))
def xDa:EO:=xC9.fT Tryz.func45 36 0 [] [] lk0 (fun ((a,b,m,n,o,c,d,e,f,_),(g,h,q,r,s,i,j,k,l,_),_)=>xuk a b m n o c d e f g h q r s i j k l none) (u2 (xGA (xGj uI (xGj uI (u7 (uL 3) uI uI uI uI uI uI)))) (xGA (xGj uI (xGj uI (u7 (uL 3) uI uI uI uI uI uI))))) (fun ((a,b,m,n,o,c,d,e,f,_),(g,h,q,r,s,i,j,k,l,_),_)=>xoO a b m n o c d e f g h q r s i j k l) (fun _ p=>(AV.bool p))
def xg9 (a b c d:Int):Bool:=(br (xbq a b) (br (xbq c d) (br (decide (a<d)) ((decide (c<b))) ((false))) ((false))) ((false)))
def xrO {T:Type} (a b c d:Int) (δ:T) (κ:Bool->T):T:=br (xbq a b) (br (xbq c d) (br (decide (a<d)) (κ (decide (c<b))) (κ (false))) (κ (false))) (κ (false))
def xrY:EO:=xDa.fT Tryz.func46 25 0 [] [] lk0 (fun ((a,b,_),(c,d,_),_)=>xrO a b c d none) (u2 (xGA (u2 uI uI)) (xGA (u2 uI uI))) (fun ((a,b,_),(c,d,_),_)=>xg9 a b c d) (fun _ p=>(AV.bool p))
def xaN (l:LA) (i:Int):=(l.getD (i64.wrap (i - 1)).toNat .top).cells
def xgx (l:LA) (i:Int):=decide (i.toNat<l.length)&&((l.getD i.toNat .top).cells.length==9&&xFG [Sh.int .i64,Sh.int .i64,Sh.list 3,Sh.int .i64,Sh.int .i64,Sh.int .i64,Sh.int .i64,Sh.int .i64,Sh.int .i64] (l.getD i.toNat .top).cells 0)
def xfC {T:Type} (l:LA) (i:Int) (δ:T) (κl:(Int)->T) (κr:(Bool×(Int)×(Unit))->T):T:=br (decide (i<l.length)) (br (ixI l i) (br (xgx l i) (br (xkd (gC l i 0).toInt (gC l i 1).toInt (gC l i 2).toList (gC l i 3).toInt (gC l i 4).toInt (gC l i 5).toInt (gC l i 6).toInt (gC l i 7).toInt (gC l i 8).toInt) (κr (true,(8),())) (br (i==0) (κl (i64.wrap (i+1))) (br (decide (0<=i64.wrap (i - 1))&&decide (i64.wrap (i - 1)<(↑l.length:Int))) (br (decide ((i64.wrap (i - 1)).toNat<l.length)&&((xaN l i).length==9&&xFG [Sh.int .i64,Sh.int .i64,Sh.list 3,Sh.int .i64,Sh.int .i64,Sh.int .i64,Sh.int .i64,Sh.int .i64,Sh.int .i64] (xaN l i) 0)) (br (ixI l i) (br (xgx l i) (br (!xoO ((xaN l i).getD 0 .top).toInt ((xaN l i).getD 1 .top).toInt ((xaN l i).getD 2 .top).toList ((xaN l i).getD 3 .top).toInt ((xaN l i).getD 4 .top).toInt ((xaN l i).getD 5 .top).toInt ((xaN l i).getD 6 .top).toInt ((xaN l i).getD 7 .top).toInt ((xaN l i).getD 8 .top).toInt (gC l i 0).toInt (gC l i 1).toInt (gC l i 2).toList (gC l i 3).toInt (gC l i 4).toInt (gC l i 5).toInt (gC l i 6).toInt (gC l i 7).toInt (gC l i 8).toInt) (κr (true,(9),())) (br (decide (((xaN l i).getD 7 .top).toInt>(gC l i 7).toInt)) (κr (true,(24),())) (br (((xaN l i).getD 0 .top).toInt==(gC l i 0).toInt) (br (((xaN l i).getD 1 .top).toInt != (gC l i 1).toInt) (κr (true,(24),())) (br (((xaN l i).getD 7 .top).toInt != (gC l i 7).toInt) (κr (true,(24),())) (br (((xaN l i).getD 8 .top).toInt != (gC l i 8).toInt) (κr (true,(24),())) (br ((xa7 ((xaN l i).getD 2 .top).toList (gC l i 2).toList).isSome) (br ((xa7 ((xaN l i).getD 2 .top).toList (gC l i 2).toList).getD 0 != 0) (κr (true,(24),())) (κl (i64.wrap (i+1)))) δ)))) (κl (i64.wrap (i+1)))))) δ) δ) δ) δ))) δ) δ) (κr (false,0,()))
def xby (l:LA):StT (Int) (Bool×(Int)×(Unit)):=fun (i)=>xfC l i none inL inR
def xgZ:=xrY.l 123 0 [] [] Tryz.f15 0 lk0 [0,3] [0,2] [] (q2 (qL 9) qI) xGk (fun (l,i,_) _=>(xby l,(i),fun p=>(.node p.1 (.leaf .ret [AV.list 9 l,AV.int .i64 p.2.1] []) (.leaf (.exit 0) [AV.list 9 l,.top] [])))) (false,0,()) fun (l,_,_) _ (i)=>(((l,i,()),()),xfC l i none)
def xg1 (l:LA) (i:Int):=ixI l i
def xg2 (l:LA) (k:Int):=ixI l k
def xh3 {T:Type} (l:LA) (i k:Int) (δ:T) (κl:(Int)->T) (κr:(Bool×(Int)×(Unit))->T):T:=br (decide (k<i)) (br (xg1 l i) (br (ixS l i (Sh.int .i64) 0) (br (xg2 l k) (br (ixS l k (Sh.int .i64) 0) (br ((gC l i 0).toInt==(gC l k 0).toInt) (br (xg1 l i) (br (ixT l i 9 [Sh.int .i64,Sh.int .i64] 3) (br (xg2 l k) (br (ixT l k 9 [Sh.int .i64,Sh.int .i64] 3) (br (xg9 (gC l i 3).toInt (gC l i 4).toInt (gC l k 3).toInt (gC l k 4).toInt) (br (xg1 l i) (br (ixT l i 9 [Sh.int .i64,Sh.int .i64] 5) (br (xg2 l k) (br (ixT l k 9 [Sh.int .i64,Sh.int .i64] 5) (br (xg9 (gC l i 5).toInt (gC l i 6).toInt (gC l k 5).toInt (gC l k 6).toInt) (κr (true,(24),())) (κl (i64.wrap (k+1)))) δ) δ) δ) δ) (κl (i64.wrap (k+1)))) δ) δ) δ) δ) (κl (i64.wrap (k+1)))) δ) δ) δ) δ) (κr (false,0,()))
def xbU (l:LA) (i:Int):StT (Int) (Bool×(Int)×(Unit)):=fun (k)=>xh3 l i k none inL inR
def xg0:=xrY.l 123 0 [] [(2,xgZ.lp)] Tryz.f15 2 lk0 [0,6,7] [0,2,6] [] (q3 (qL 9) qI qI) xGk (fun (l,i,k,_) _=>(xbU l i,(k),fun p=>(.node p.1 (.leaf .ret [AV.list 9 l,AV.int .i64 p.2.1,AV.int .i64 i] []) (.leaf (.exit 4) [AV.list 9 l,.top,AV.int .i64 i] [])))) (false,0,()) fun (l,i,_,_) _ (k)=>(((l,i,k,()),()),xh3 l i k none)
def xh2 {T:Type} (l:LA) (i:Int) (δ:T) (κl:(Int)->T) (κr:(Bool×(Int)×(Unit))->T):T:=br (decide (i<l.length)) (br ((Iter (xbU l i) 0).isSome) (br (((Iter (xbU l i) 0).getD (false,0,())).fst) (κr (true,(((Iter (xbU l i) 0).getD (false,0,())).snd.fst),())) (κl (i64.wrap (i+1)))) δ) (κr (false,0,()))
def xbT (l:LA):StT (Int) (Bool×(Int)×(Unit)):=fun (i)=>xh2 l i none inL inR
def xnA:=xrY.l 123 0 [] [(2,xgZ.lp),(16,xg0.lp)] Tryz.f15 1 (lk1 xg0.ok) [0,6] [2] [] (q2 (qL 9) qI) xGk (fun (l,i,_) _=>(xbT l,(i),fun p=>(.node p.1 (.leaf .ret [AV.int .i64 p.2.1] []) (.leaf (.exit 2) [.top] [])))) (false,0,()) fun (l,_,_) _ (i)=>(((l,i,()),()),xh2 l i none)
def xnp {T:Type} (l:LA) (δ:T) (κ:Int->T):T:=br ((Iter (xby l) 0).isSome) (br (((Iter (xby l) 0).getD (false,0,())).fst) (κ (((Iter (xby l) 0).getD (false,0,())).snd.fst)) (br ((Iter (xbT l) 0).isSome) (br (((Iter (xbT l) 0).getD (false,0,())).fst) (κ (((Iter (xbT l) 0).getD (false,0,())).snd.fst)) (κ (0))) δ)) δ
def xmO (l:LA):=xnp l none some
def xDb:EO:=xrY.f Tryz.func15 123 0 [] [(2,xgZ.lp),(16,xg0.lp),(13,xnA.lp)] (lks (lkC xgZ.ok (lkC xnA.ok (lkC xg0.ok lkN)))) (u1 (uL 9)) (fun (l,_) _=>xnp l) (fun _ p=>AV.int .i64 p) 0
def xdD (c d:Int) (g:LA) (h i b a e f:Int):Bool:=(br (xbs b a) ((a==1099511627776)) ((false)))
def xuO {T:Type} (c d:Int) (g:LA) (h i b a e f:Int) (δ:T) (κ:Bool->T):T:=br (xbs b a) (κ (a==1099511627776)) (κ (false))
def xEh:EO:=xDb.fT Tryz.func57 12 0 [] [] lk0 (fun ((a,b,g,h,i,c,d,e,f,_),_)=>xuO a b g h i c d e f none) (u1 (xGA (xGj uI (xGj uI (u7 (uL 3) uI uI uI uI uI uI))))) (fun ((a,b,g,h,i,c,d,e,f,_),_)=>xdD a b g h i c d e f) (fun _ p=>(AV.bool p))
def xd3 (l:LA):LA:=((l))
def xs7 {T:Type} (l:LA) (δ:T) (κ:LA->T):T:=κ (l)
def xip:EO:=xEh.fT Tryz.func37 4 0 [] [] lk0 (fun (l,_)=>xs7 l none) (u1 (uL 9)) (fun (l,_)=>xd3 l) (fun _ p=>(AV.func 67 [AV.eptr 1 [AV.list 9 p] 0 0]))
end Go.Sim.M
