/- Part 13 of the proof of the law. -/
import Derived.Test.YtckgiglpmfpagaaGreatDoorQB12
import Derived.StillTailTactics
set_option linter.unusedVariables false
set_option linter.unusedSimpArgs false
set_option maxRecDepth 100000
noncomputable section
namespace Go.Sim.M
def cmpI (x y:Int):Int:=if x<y then -1 else if y<x then 1 else 0
def orI (x y:Int):Int:=if x=0 then y else x
end Go.Sim.M
namespace Go.Proofs
open Go.RowKit Go.Sim Go.Sim.M Go.Sort Go.Lib
theorem Tryz.cmp_walk (x y:Int) (w:World):Calls Tryz.prog 51 #[.int .i64 x,.int .i64 y] w fun e w'=>e=.returned (.int .i64 (cmpI x y))/\w'=w:=by
 unfold cmpI
 go_enter Tryz.func51,Tryz.ntmps51
 go_wp2
 all_goals (go_ret;exact ⟨rfl,rfl⟩)
theorem Tryz.or_walk (x y:Int) (b off c:Nat) (w:World) (h0:w.cell? ⟨b,off,none⟩=some (.int .i64 x)) (h1:w.cell? ⟨b,off+1,none⟩=some (.int .i64 y)):Calls Tryz.prog 73 #[.slice (some ⟨b,off,none⟩) 2 c] w fun e w'=>e=.returned (.int .i64 (orI x y))/\w'=w:=by
 unfold orI;by_cases hx:x=0
 . subst hx;rw [if_pos rfl];by_cases hy:y=0
   . subst hy
     go_enter Tryz.func73,Tryz.ntmps73
     go_wp2
     refine wp_loop_rounds 3 ?_;rw [rounds_succ]
     go_wp2
     rw [rounds_succ]
     go_wp2
     rw [rounds_succ]
     go_wp2
     go_ret
     exact ⟨rfl,rfl⟩
   . have hy':(y != 0)=true:=by simpa using hy
     go_enter Tryz.func73,Tryz.ntmps73
     go_wp2
     refine wp_loop_rounds 3 ?_;rw [rounds_succ]
     go_wp2
     rw [rounds_succ]
     go_wp2
     go_ret
     exact ⟨rfl,rfl⟩
 . have hx':(x != 0)=true:=by simpa using hx
   rw [if_neg hx]
   go_enter Tryz.func73,Tryz.ntmps73
   go_wp2
   refine wp_loop_rounds 3 ?_;rw [rounds_succ]
   go_wp2
   go_ret
   exact ⟨rfl,rfl⟩
theorem fill2I (u1 u2:Int):Instr.fill (fun i=>some (i*1,1)) ((Array.range (2*1)).map (fun x=>(Value.int .i64 0).cells[x % (Value.int .i64 0).cells.size]!)) [(0,.int .i64 u1),(1,.int .i64 u2)]=some #[.int .i64 u1,.int .i64 u2]:=by
 simp [Instr.fill,Array.range,Value.cells];apply Array.ext
 . simp
 . intro i h1 h2;rcases i with _|_|i
   . simp
   . simp
   . simp at h2;omega
set_option maxHeartbeats 2000000 in
theorem Tryz.levels2_walk (a b c d:Int) (w:World):Calls Tryz.prog 91 #[.agg #[.int .i64 a,.int .i64 b],.agg #[.int .i64 c,.int .i64 d]] w fun e w'=>e=.returned (.int .i64 (orI (cmpI a c) (cmpI b d)))/\∃ q J,w'=Sort.grow (w.drewN q) J:=by
 go_enter Tryz.func91,Tryz.ntmps91
 go_wp2_with (go_at_call 51;skip)
 have g0:(w.alloc (.cells #[.int .i64 a,.int .i64 b] 56)).heap[w.heap.size]?=some (.cells #[.int .i64 a,.int .i64 b] 56 (0,0)):=heap_alloc_new w _;have g1:((w.alloc (.cells #[.int .i64 a,.int .i64 b] 56)).alloc (.cells #[.int .i64 c,.int .i64 d] 56)).heap[w.heap.size+1]?=some (.cells #[.int .i64 c,.int .i64 d] 56 (0,0)):=by
  have:=heap_alloc_new (w.alloc (.cells #[.int .i64 a,.int .i64 b] 56)) (.cells #[.int .i64 c,.int .i64 d] 56);have e:(w.alloc (.cells #[.int .i64 a,.int .i64 b] 56)).heap.size=w.heap.size+1:=by simp
  rwa [e] at this
 have f0:((w.alloc (.cells #[.int .i64 a,.int .i64 b] 56)).alloc (.cells #[.int .i64 c,.int .i64 d] 56)).cell? ⟨w.heap.size,0,none⟩=some (.int .i64 a):=by
  rw [World.cell?_alloc_past _ _ _ (by simp)];simp only [World.cell?,g0];rfl
 have f1:((w.alloc (.cells #[.int .i64 a,.int .i64 b] 56)).alloc (.cells #[.int .i64 c,.int .i64 d] 56)).cell? ⟨w.heap.size,1,none⟩=some (.int .i64 b):=by
  rw [World.cell?_alloc_past _ _ _ (by simp)];simp only [World.cell?,g0];rfl
 have f2:((w.alloc (.cells #[.int .i64 a,.int .i64 b] 56)).alloc (.cells #[.int .i64 c,.int .i64 d] 56)).cell? ⟨w.heap.size+1,0,none⟩=some (.int .i64 c):=by
  simp only [World.cell?,g1];rfl
 have f3:((w.alloc (.cells #[.int .i64 a,.int .i64 b] 56)).alloc (.cells #[.int .i64 c,.int .i64 d] 56)).cell? ⟨w.heap.size+1,1,none⟩=some (.int .i64 d):=by
  simp only [World.cell?,g1];rfl
 have f4:∃ q J,((w.alloc (.cells #[.int .i64 a,.int .i64 b] 56)).alloc (.cells #[.int .i64 c,.int .i64 d] 56))=Sort.grow (w.drewN q) J:=⟨0,_,by rw [alloc_eq_grow,alloc_eq_grow,grow_grow];rfl⟩
 generalize ((w.alloc (.cells #[.int .i64 a,.int .i64 b] 56)).alloc (.cells #[.int .i64 c,.int .i64 d] 56))=W2 at f0 f1 f2 f3 f4 |-;refine wp_region_still_tail 10 (by kernel_rfl) (by kernel_rfl) ?_
 simp only [List.take_succ_cons,List.take_zero,List.drop_succ_cons,List.drop_zero];change wpStill _ _ (World.drew W2) _ _ _;have f0':W2.drew.cell? ⟨w.heap.size,0,none⟩=some (.int .i64 a):=f0;have f1':W2.drew.cell? ⟨w.heap.size,1,none⟩=some (.int .i64 b):=f1;have f2':W2.drew.cell? ⟨w.heap.size+1,0,none⟩=some (.int .i64 c):=f2;have f3':W2.drew.cell? ⟨w.heap.size+1,1,none⟩=some (.int .i64 d):=f3;have f4':∃ q J,W2.drew=Sort.grow (w.drewN q) J:=by obtain ⟨q,J,e⟩:=f4;exact ⟨q+1,J,by rw [e];rfl⟩
 iterate 4 still_step
 still_call (Tryz.cmp_walk _ _ _)
 iterate 4 still_step
 still_call (Tryz.cmp_walk _ _ _)
 refine wpStill_nil ?_;change wpList _ _ _ _ _ (World.drew W2);generalize World.drew W2=W at f0' f1' f2' f3' f4' |-;generalize Q:cmpI a c=u1;generalize O:cmpI b d=u2;obtain ⟨ie,q1,q2,q3⟩:∃ ie,Tryz.prog.info? 3=some ie/\ie.zero=some (.int .i64 0)/\ie.size=1:=⟨(Tryz.prog.info? 3).get (by kernel_rfl),(Option.some_get _).symm,by kernel_rfl,by kernel_rfl⟩
 refine wpList_buildSlice rfl 31 3 2 _ rfl #[.int .i64 u1,.int .i64 u2] ie (.int .i64 0) (by kernel_rfl) q1 q2 (by rw [q3];decide) (by rw [q3];decide) (by rw [q3];refine Eq.trans (congrArg _ ?_) (fill2I u1 u2);simp [Act.eval]) ?_
 simp only [Act.put]
 go_wp2_with fail
 have g2:(W.alloc (.cells #[.int .i64 u1,.int .i64 u2] 3)).heap[W.heap.size]?=some (.cells #[.int .i64 u1,.int .i64 u2] 3 (0,0)):=heap_alloc_new W _;refine (Tryz.or_walk u1 u2 W.heap.size 0 2 (W.alloc (.cells #[.int .i64 u1,.int .i64 u2] 3)) (by simp only [World.cell?,g2];rfl) (by simp only [World.cell?,g2];rfl)).mono ?_
 rintro e w' ⟨rfl,rfl⟩
 go_wp2
 go_ret
 obtain ⟨q,J,hq⟩:=f4';exact ⟨by rw [Q,O];rfl,q,_,by rw [hq,alloc_eq_grow,grow_grow]⟩
end Go.Proofs
namespace Go.Sim.M
abbrev TyS:Type:=Fin 1099511627777×Int
def intsS (x:TyS):List Int:=[(x.1.val:Int),x.2]
def cmpS (x y:TyS):Int:=(x.1.val:Int) - (y.1.val:Int)
end Go.Sim.M
namespace Go.Proofs
open Go.RowKit Go.Sim Go.Sim.M Go.Sort
set_option maxHeartbeats 1000000 in
theorem Tryz.walkS (a b a' b' r:Int) (hr:IntKind.i64.wrap (a - a')=r) (W:World):Calls Tryz.prog 115 #[.agg #[.int .i64 a,.int .i64 b],.agg #[.int .i64 a',.int .i64 b']] W fun e w'=>e=.returned (.int .i64 r)/\∃ q os',w'=Sort.grow (W.drewN q) os':=by
 go_enter Tryz.func115,Tryz.ntmps115
 go_wp2
 go_ret
 subst hr;exact ⟨rfl,0,_,by rw [alloc_eq_grow,alloc_eq_grow,grow_grow];rfl⟩
end Go.Proofs
namespace Go.Sim.M
open Go.RowKit Go.Proofs Go.Sort
def isS:AV->Bool
 | .agg [.int .i64 a,.int .i64 _]=>decide (0<=a)&&decide (a<=1099511627776)
 | _=>false
def decS:AV->TyS
 | .agg [.int _ a,.int _ b]=>(Fin.ofNat 1099511627777 a.toNat,b)
 | _=>default
noncomputable def srtS (xs:List AV):List AV:=(pdqL cmpS (xs.map decS)).map (encI intsS)
theorem xCt {x:AV} (h:isS x=true):encI intsS (decS x)=x:=by
 unfold isS at h;split at h
 . rename_i a b;simp only [Bool.and_eq_true,decide_eq_true_eq] at h;have:a.toNat % 1099511627777=a.toNat:=Nat.mod_eq_of_lt (by omega)
   simp only [decS,encI,intsS,List.map_cons,List.map_nil,Fin.ofNat,this,Int.toNat_of_nonneg h.1]
 . simp at h
theorem xBf {xs:List AV} (h:xs.all isS=true):(xs.map decS).map (encI intsS)=xs:=by
 rw [List.map_map]
 conv=>rhs;rw [<-List.map_id xs]
 refine List.map_congr_left fun x hx=>?_
 exact xCt (List.all_eq_true.1 h x hx)
theorem ltS (x y:TyS):ltOf cmpS x y=decide (x.1.val<y.1.val):=by
 unfold ltOf cmpS;by_cases h:x.1.val<y.1.val
 . rw [decide_eq_true h,decide_eq_true (by omega)]
 . rw [decide_eq_false h,decide_eq_false (by omega)]
theorem swoS:SWO (ltOf cmpS) where
 irrefl x:=by rw [ltS];simp
 trans x y z h1 h2:=by rw [ltS] at *;simp at *;omega
 ntrans x y z h1 h2:=by rw [ltS] at *;simp at *;omega
noncomputable def xuG:List AV->List Box->Option (Bool×AV×List Box)
 | [.osl (.b 0) ver 0 n,.func g []],[⟨ver',2,ty,xs,false,true⟩]=>match Nat.beq g 115&&Nat.beq ty 131 with
  | true=>some (Nat.beq ver ver'&&(Nat.beq n xs.length&&(decide (n<4611686018427387904)&&xs.all isS)),.tuple [],[⟨ver',2,131,srtS xs,false,true⟩])
  | false=>none
 | _,_=>none
theorem xEl:OmOk Tryz.prog xHU 114 xuG:=fun Q H r H' h=>by
 unfold xuG at h;split at h
 . rename_i ver n g O ty xs;split at h
   case h_2=>simp at h
   rename_i hg;simp only [Bool.and_eq_true] at hg;obtain rfl:=Nat.eq_of_beq_eq_true hg.1;obtain rfl:=Nat.eq_of_beq_eq_true hg.2;simp only [Option.some.injEq,Prod.mk.injEq,Bool.and_eq_true,decide_eq_true_eq] at h;obtain ⟨⟨h1,h2,h3,h4⟩,rfl,rfl⟩:=h;obtain rfl:=Nat.eq_of_beq_eq_true h1;obtain rfl:=Nat.eq_of_beq_eq_true h2;have q:∃ ti,xHb Tryz.prog 131=some ti/\ti.sz=2/\ti.agg=true:=by
    have h:(match xHb Tryz.prog 131 with|some ti=>(ti.sz==2)&&ti.agg|none=>false)=true:=by kernel_rfl
    split at h
    . rename_i ti q;simp only [Bool.and_eq_true,beq_iff_eq] at h;exact ⟨ti,q,h.1,h.2⟩
    . simp at h
   obtain ⟨ti,q,hz,ha⟩:=q;have J:=xrh (P:=Tryz.prog) (Inv:=xHU) Tryz.srl114 2 (by decide) (fun w=>by rw [<-ha];exact xlY q w) (fun w=>by rw [<-hz];exact xdZ q w)
    intsS (fun _=>rfl) cmpS swoS 115 (xfx Tryz.func114 rfl (by kernel_rfl)) (xl2 (xfx Tryz.func115 rfl (by kernel_rfl)))
    (fun x y W=>Tryz.walkS _ _ _ _ (cmpS x y) (by
     have:=x.1.isLt;have:=y.1.isLt;unfold cmpS;exact xc5 (by omega) (by omega)) W)
    ver 131 rfl (xs.map decS) (by simpa using h3)
   rw [List.length_map,xBf h4] at J;exact J
 . simp at h
end Go.Sim.M
namespace Go.Sim.M
abbrev TyP:Type:=Int×Int
def intsP (x:TyP):List Int:=[x.1,x.2]
def cmpP (x y:TyP):Int:=orI (cmpI x.1 y.1) (cmpI x.2 y.2)
end Go.Sim.M
namespace Go.Sim.M
open Go.RowKit Go.Proofs Go.Sort
def isP:AV->Bool
 | .agg [.int .i64 _,.int .i64 _]=>true
 | _=>false
def decP:AV->TyP
 | .agg [.int _ a,.int _ b]=>(a,b)
 | _=>default
noncomputable def srtP (xs:List AV):List AV:=(pdqL cmpP (xs.map decP)).map (encI intsP)
theorem xCs {x:AV} (h:isP x=true):encI intsP (decP x)=x:=by
 unfold isP at h;split at h
 . rfl
 . simp at h
theorem xBe {xs:List AV} (h:xs.all isP=true):(xs.map decP).map (encI intsP)=xs:=by
 rw [List.map_map]
 conv=>rhs;rw [<-List.map_id xs]
 refine List.map_congr_left fun x hx=>?_
 exact xCs (List.all_eq_true.1 h x hx)
theorem ltP (x y:TyP):ltOf cmpP x y=decide (x.1<y.1\/x.1=y.1/\x.2<y.2):=by
 unfold ltOf cmpP orI cmpI;by_cases h:x.1<y.1\/x.1=y.1/\x.2<y.2
 . rw [decide_eq_true h];simp only [decide_eq_true_eq];rcases h with h|⟨h,h'⟩
   . simp [h]
   . simp [h,h']
 . rw [decide_eq_false h];simp only [decide_eq_false_iff_not];have h1:¬ x.1<y.1:=fun e=>h (.inl e)
   by_cases h2:y.1<x.1
   . simp [h1,h2]
   . have h3:x.1=y.1:=by omega
     have h4:¬ x.2<y.2:=fun e=>h (.inr ⟨h3,e⟩)
     by_cases h5:y.2<x.2
     . simp [h1,h2,h4,h5]
     . simp [h1,h2,h4,h5]
theorem swoP:SWO (ltOf cmpP) where
 irrefl x:=by rw [ltP];simp
 trans x y z h1 h2:=by rw [ltP] at *;simp only [decide_eq_true_eq] at *;omega
 ntrans x y z h1 h2:=by rw [ltP] at *;simp only [decide_eq_true_eq,decide_eq_false_iff_not] at *;omega
noncomputable def xuF:List AV->List Box->Option (Bool×AV×List Box)
 | [.osl (.b 0) ver 0 n,.func g []],[⟨ver',2,ty,xs,false,true⟩]=>match Nat.beq g 91&&Nat.beq ty 56 with
  | true=>some (Nat.beq ver ver'&&(Nat.beq n xs.length&&(decide (n<4611686018427387904)&&xs.all isP)),.tuple [],[⟨ver',2,56,srtP xs,false,true⟩])
  | false=>none
 | _,_=>none
theorem xEk:OmOk Tryz.prog xHU 90 xuF:=fun Q H r H' h=>by
 unfold xuF at h;split at h
 . rename_i ver n g O ty xs;split at h
   case h_2=>simp at h
   rename_i hg;simp only [Bool.and_eq_true] at hg;obtain rfl:=Nat.eq_of_beq_eq_true hg.1;obtain rfl:=Nat.eq_of_beq_eq_true hg.2;simp only [Option.some.injEq,Prod.mk.injEq,Bool.and_eq_true,decide_eq_true_eq] at h;obtain ⟨⟨h1,h2,h3,h4⟩,rfl,rfl⟩:=h;obtain rfl:=Nat.eq_of_beq_eq_true h1;obtain rfl:=Nat.eq_of_beq_eq_true h2;have q:∃ ti,xHb Tryz.prog 56=some ti/\ti.sz=2/\ti.agg=true:=by
    have h:(match xHb Tryz.prog 56 with|some ti=>(ti.sz==2)&&ti.agg|none=>false)=true:=by kernel_rfl
    split at h
    . rename_i ti q;simp only [Bool.and_eq_true,beq_iff_eq] at h;exact ⟨ti,q,h.1,h.2⟩
    . simp at h
   obtain ⟨ti,q,hz,ha⟩:=q;have J:=xrh (P:=Tryz.prog) (Inv:=xHU) Tryz.srl90 2 (by decide) (fun w=>by rw [<-ha];exact xlY q w) (fun w=>by rw [<-hz];exact xdZ q w)
    intsP (fun _=>rfl) cmpP swoP 91 (xfx Tryz.func90 rfl (by kernel_rfl)) (xl2 (xfx Tryz.func91 rfl (by kernel_rfl)))
    (fun x y W=>Tryz.levels2_walk _ _ _ _ W)
    ver 56 rfl (xs.map decP) (by simpa using h3)
   rw [List.length_map,xBe h4] at J;exact J
 . simp at h
end Go.Sim.M
namespace Go.Sim.M
open Go.RowKit Go.Proofs
noncomputable def E1:Env:=(xDm.E.withM 114 xuG).withM 90 xuF
theorem xDg:xHc Tryz.prog xHU E1:=(xDm.ok.withM xEl).withM xEk
noncomputable def xFw:EO:=EO.mk E1 xDg
end Go.Sim.M
namespace Go.Sim.M
open Go.IntKind (i64 u64 u8)
open Go.RowKit Go.Proofs
def xip:Env:=E1.fn 29 1 (lsOf []) (xHz [])
theorem xue:xHc P0 (xHU.at 1) xip:=xDg.fn
theorem xr4:LoOk P0 (xHU.at xip.pin) xip (Tryz.f116.body.getD .skip):=xeO (by kernel_rfl)
def xoP {T:Type} (k:Nat) (a n:Int) (b:LA) (δ:T) (κ:Bool×(Nat×LA)×(Nat×LA)->T):T:=br (rmB k b 1 16) (κ (false,(0,[]),(k+1,b++[AV.agg [AV.int .i64 a,AV.int .i64 n]]))) δ
def xqo {T:Type} (k:Nat) (b n:Int) (a:LA) (δ:T) (κ:Bool×(Nat×LA)×(Nat×LA)->T):T:=br (decide ((↑k:Int)>0)) (br (decide (0<=i64.wrap ((↑k:Int) - 1))&&decide (i64.wrap ((↑k:Int) - 1)<(↑k:Int))) (br (decide (0+(i64.wrap ((↑k:Int) - 1)).toNat<a.length)&&xHa (Sh.int .i64) ((a.getD (0+(i64.wrap ((↑k:Int) - 1)).toNat) .top).cells.getD 1 .top)) (br (((a.getD (0+(i64.wrap ((↑k:Int) - 1)).toNat) .top).cells.getD 1 .top).toInt==n) (κ (true,(k,a),(0,[]))) (xoP k b n a δ κ)) δ) δ) (xoP k b n a δ κ)
def xdA (k:Nat) (a n:Int) (b:LA):=xqo k a n b none some
theorem xyK (k:Nat) (a n:Int) (xs:LA):Enc (fun (p:Bool×(Nat×LA)×(Nat×LA))=>((br p.1 ((AV.osl 0 0 0 p.2.1.1,([⟨0,2,131,p.2.1.2,false,true⟩]:List Box))) ((AV.osl 0 1 0 p.2.2.1,([⟨1,2,131,p.2.2.2,false,true⟩]:List Box)))):(AV×List Box))) (xdA k a n xs) (XFM P0 xip Tryz.f116 (Tryz.f116.body.getD .skip) [AV.osl (0:Id) 0 0 k,AV.int .i64 a,AV.int .i64 n] [{ ver:=0,sz:=2,ty:=(131:TypeId),xs:=xs,frz:=false,pm:=true }]):=by
 have h:XFM P0 xip Tryz.f116 (Tryz.f116.body.getD .skip) [AV.osl (0:Id) 0 0 k,AV.int .i64 a,AV.int .i64 n] [{ ver:=0,sz:=2,ty:=(131:TypeId),xs:=xs,frz:=false,pm:=true }]=xqo k a n xs none (fun (p:Bool×(Nat×LA)×(Nat×LA))=>some ((br p.1 ((AV.osl 0 0 0 p.2.1.1,([⟨0,2,131,p.2.1.2,false,true⟩]:List Box))) ((AV.osl 0 1 0 p.2.2.1,([⟨1,2,131,p.2.2.2,false,true⟩]:List Box)))):(AV×List Box))):=by kernel_rfl
 rw [h];unfold xdA xqo xoP;repeat' (first|refine Enc.br ?_ ?_|exact Enc.none|exact Enc.some rfl)
def xyJ:LA->List Box->Option (Bool×AV×List Box):=omOf (xHW (sEq (xH6 0 0 0)) (xHW (sEq (pInt .i64)) (xHW (sEq (pInt .i64)) xHY))) (xHV (xH9 0 2 (131:TypeId) false true xHZ) xHX) fun (k,(a,(n,_))) (b,_)=>((xdA k a n b).isSome,(AV.osl 0 1 0 (br ((xdA k a n b).getD (false,(0,[]),(0,[]))).1 ((xdA k a n b).getD (false,(0,[]),(0,[]))).2.1.1 ((xdA k a n b).getD (false,(0,[]),(0,[]))).2.2.1),([⟨1,2,131,(br ((xdA k a n b).getD (false,(0,[]),(0,[]))).1 ((xdA k a n b).getD (false,(0,[]),(0,[]))).2.1.2 ((xdA k a n b).getD (false,(0,[]),(0,[]))).2.2.2),false,true⟩]:List Box)))
theorem xyI:OmOk P0 xHU 116 (xyJ):=xlU fun e f j i g=>by
 obtain ⟨k,⟨b,⟨n,_⟩⟩⟩:=e;obtain ⟨h,_⟩:=f;obtain ⟨c,a⟩:=Prod.mk.inj g;have hx:=xyK _ _ _ _ _ (xcr (d:=(false,(0,[]),(0,[]))) c);revert hx a;generalize ((xdA k b n h).getD (false,(0,[]),(0,[])))=p;intro a hx;obtain ⟨rfl,rfl⟩:=Prod.mk.inj a;obtain ⟨t,⟨l,m⟩,o,q⟩:=p;have hg:GoodM P0 xHU 116 _ _ _ _:=xgH (p:=xip.pin) (xis xHl (xHm P0 _) rfl xue rfl Tryz.func116 rfl (by kernel_rfl) xr4 hx)
 cases t
 . exact hg
 . exact GoodM.bump1 rfl (by decide) hg
def xrt:EO:=xFw.wM xyI
def xlb {T:Type} (d:LA) (e:Int) (b:Nat) (c:Int) (a:LA) (δ:T) (κl:(Nat×Int×LA)->T) (κr:(Nat×LA)->T):T:=br (decide (c<e)) (br (ixI d c) (br (ixT d c 3 [Sh.int .i64,Sh.int .i64,Sh.int .i64] 0) (br (xf6 (gC d c 0).toInt (gC d c 1).toInt) (br (rmB b a 2 16) (κl (b+2,i64.wrap (c+1),a++[AV.agg [AV.int .i64 (gC d c 0).toInt,AV.int .i64 (gC d c 2).toInt],AV.agg [AV.int .i64 (gC d c 1).toInt,AV.int .i64 (i64.wrap (0 - (gC d c 2).toInt))]])) δ) (κl (b,i64.wrap (c+1),a))) δ) δ) (κr (b,a))
def xeX (c:LA) (d:Int):StT (Nat×Int×LA) (Nat×LA):=fun (b,e,a)=>xlb c d b e a none inL inR
def xid:=xrt.l 106 0 [] [] Tryz.f92 0 lk0 [3,10,11,12] [3] [(3,2,131)] (q4 (xH6 0 0 0) (qL 3) qI qI) (q1 (qB 0 2 131 xHZ)) (fun (b,c,d,e,_) (a,_)=>(xeX c d,(b,e,a),fun p=>(.leaf (.exit 0) [AV.osl 0 0 0 p.1] [bF 0 2 131 p.2]))) (0,[]) fun (_,c,d,_,_) _ (b,e,a)=>(((b,c,d,e,()),(a,())),xlb c d b e a none)
def xqC (i:Int) (a:LA):=decide (0+i.toNat<a.length)
def xri {T:Type} (b e:Nat) (d i:Int) (a c:LA) (δ:T) (κl:(Int×Int×LA×LA)->T) (κr:(Int×Int×LA×LA)->T):T:=br (decide (i<(↑b:Int))) (br (decide (0<=i)&&decide (i<(↑b:Int))) (br (xqC i a&&xHa (Sh.int .i64) ((a.getD (0+i.toNat) .top).cells.getD 0 .top)) (br (((a.getD (0+i.toNat) .top).cells.getD 0 .top).toInt==0) (br (decide (0<=i)&&decide (i<(↑b:Int))) (br (xqC i a&&xHa (Sh.int .i64) ((a.getD (0+i.toNat) .top).cells.getD 1 .top)) (κl (i64.wrap (d+((a.getD (0+i.toNat) .top).cells.getD 1 .top).toInt),i64.wrap (i+1),a,c)) δ) δ) (κr (d,i,a,c))) δ) δ) (κr (d,i,a,c))
def xiO (b d:Nat):StT (Int×Int×LA×LA) (Int×Int×LA×LA):=fun (e,i,a,c)=>xri b d e i a c none inL inR
def xkv:=xrt.l 106 0 [] [(3,xid.lp)] Tryz.f92 1 lk0 [3,6,7,8] [3,6,7,8] [(3,2,131),(6,2,131)] (q4 (xH6 0 0 0) (xH6 1 0 0) qI qI) (q2 (qB 0 2 131 xHZ) (qB 0 2 131 xHZ)) (fun (a,c,e,i,_) (b,d,_)=>(xiO a c,(e,i,b,d),fun p=>(.leaf (.exit 2) [AV.osl 0 0 0 a,AV.osl 1 0 0 c,AV.int .i64 p.1,AV.int .i64 p.2.1] [bF 0 2 131 p.2.2.1,bF 0 2 131 p.2.2.2]))) (0,0,[],[]) fun (a,c,_,_,_) _ (e,i,b,d)=>(((a,c,e,i,()),(b,d,())),xri a c e i b d none)
def xio (i:Int) (a:LA):=decide (0+i.toNat<a.length)
def xiV {T:Type} (b f:Nat) (e d i:Int) (a c:LA) (δ:T) (κl:(Int×Int×LA×LA)->T) (κr:(Int×Int×LA×LA)->T):T:=br (decide (i<(↑b:Int))) (br (decide (0<=i)&&decide (i<(↑b:Int))) (br (xio i a&&xHa (Sh.int .i64) ((a.getD (0+i.toNat) .top).cells.getD 0 .top)) (br (((a.getD (0+i.toNat) .top).cells.getD 0 .top).toInt==e) (br (decide (0<=i)&&decide (i<(↑b:Int))) (br (xio i a&&xHa (Sh.int .i64) ((a.getD (0+i.toNat) .top).cells.getD 1 .top)) (κl (i64.wrap (d+((a.getD (0+i.toNat) .top).cells.getD 1 .top).toInt),i64.wrap (i+1),a,c)) δ) δ) (κr (d,i,a,c))) δ) δ) (κr (d,i,a,c))
def xd1 (b d:Nat) (e:Int):StT (Int×Int×LA×LA) (Int×Int×LA×LA):=fun (f,i,a,c)=>xiV b d e f i a c none inL inR
def xkw:=xrt.l 106 0 [] [(3,xid.lp),(11,xkv.lp)] Tryz.f92 3 lk0 [3,6,7,8,9] [3,6,7,8,9] [(3,2,131),(6,2,131)] (q5 (xH6 0 0 0) (xH6 1 0 0) qI qI qI) (q2 (qB 0 2 131 xHZ) (qB 0 2 131 xHZ)) (fun (a,c,f,i,e,_) (b,d,_)=>(xd1 a c e,(f,i,b,d),fun p=>(.leaf (.exit 6) [AV.osl 0 0 0 a,AV.osl 1 0 0 c,AV.int .i64 p.1,AV.int .i64 p.2.1,AV.int .i64 e] [bF 0 2 131 p.2.2.1,bF 0 2 131 p.2.2.2]))) (0,0,[],[]) fun (a,c,_,_,e,_) _ (f,i,b,d)=>(((a,c,f,i,e,()),(b,d,())),xiV a c e f i b d none)
def xhg (i:Int) (a:LA):=decide (0+i.toNat<a.length)&&xHa (Sh.int .i64) ((a.getD (0+i.toNat) .top).cells.getD 0 .top)
def xfs (i:Int) (a:LA):=((a.getD (0+i.toNat) .top).cells.getD 0 .top).toInt
def xhh (b d:Nat) (e i:Int) (a c:LA):=Iter (xd1 b d (xfs i a)) (e,i,a,c)
def xin (b d:Nat) (e i:Int) (a c:LA):=(xhh b d e i a c).getD (0,0,[],[])
def xil (b d:Nat) (e i:Int) (a c:LA):=(xin b d e i a c).snd
def xim (b d:Nat) (e i:Int) (a c:LA):=(xin b d e i a c).fst
def xik (b d:Nat) (e i:Int) (a c:LA):=(xil b d e i a c).snd
def xij (b c:Nat) (e i:Int) (a d:LA):=xdA c (xfs i a) (xim b c e i a d) (xik b c e i a d).snd
def xii (b d:Nat) (e i:Int) (a c:LA):=(xij b d e i a c).getD (false,(0,[]),0,[])
def xig (b d:Nat) (e i:Int) (a c:LA):=(xii b d e i a c).fst
def xih (b d:Nat) (e i:Int) (a c:LA):=(xii b d e i a c).snd
def xie (b d:Nat) (e i:Int) (a c:LA):=(xih b d e i a c).fst
def xif (b d:Nat) (e i:Int) (a c:LA):=(xih b d e i a c).snd
def xiU {T:Type} (b d:Nat) (e i:Int) (a c:LA) (δ:T) (κl:(Nat×Int×Int×LA×LA)->T) (κr:(Nat×LA)->T):T:=br (decide (i<(↑b:Int))) (br (decide (0<=i)&&decide (i<(↑b:Int))) (br (xhg i a) (br (decide (xfs i a<1099511627776)) (br (decide (0<=i)&&decide (i<(↑b:Int))) (br (xhg i a) (br ((xhh b d e i a c).isSome) (br ((xij b d e i a c).isSome) (κl (br (xig b d e i a c) (xie b d e i a c).fst (xif b d e i a c).fst,xim b d e i a c,(xil b d e i a c).fst,(xik b d e i a c).fst,br (xig b d e i a c) (xie b d e i a c).snd (xif b d e i a c).snd)) δ) δ) δ) δ) (κr (d,c))) δ) δ) (κr (d,c))
def xeY (b:Nat):StT (Nat×Int×Int×LA×LA) (Nat×LA):=fun (d,e,i,a,c)=>xiU b d e i a c none inL inR
def xqD:=xrt.l 106 0 [] [(3,xid.lp),(11,xkv.lp),(17,xkw.lp)] Tryz.f92 2 (lk1 xkw.ok) [3,6,7,8] [6] [(3,2,131),(6,2,131)] (q4 (xH6 0 0 0) (xH6 1 0 0) qI qI) (q2 (qB 0 2 131 xHZ) (qB 0 2 131 xHZ)) (fun (b,d,e,i,_) (a,c,_)=>(xeY b,(d,e,i,a,c),fun p=>(.leaf (.exit 4) [AV.osl 0 0 0 p.1] [bF 0 2 131 p.2]))) (0,[]) fun (b,_,_,_,_) _ (d,e,i,a,c)=>(((b,d,e,i,()),(a,c,())),xiU b d e i a c none)
def xpJ (l:LA):=(Iter (xeX l (↑l.length:Int)) (0,0,[])).getD (0,[])
def xj9 (l:LA):=(xpJ l).fst
def xm7 (l:LA):=(xpJ l).snd
def xpI (l:LA):=Iter (xiO (xj9 l) 0) (0,0,srtS (xm7 l),[])
def xpH (l:LA):=(xpI l).getD (0,0,[],[])
def xpF (l:LA):=(xpH l).snd
def xpG (l:LA):=(xpH l).fst
def xpE (l:LA):=(xpF l).snd
def xqn (l:LA):=xdA 0 0 (xpG l) (xpE l).snd
def xqm (l:LA):=(xqn l).getD (false,(0,[]),0,[])
def xqk (l:LA):=(xqm l).fst
def xql (l:LA):=(xqm l).snd
def xqi (l:LA):=(xql l).fst
def xqj (l:LA):=(xql l).snd
def xqh (l:LA):=Iter (xeY (xj9 l)) (br (xqk l) (xqi l).fst (xqj l).fst,xpG l,(xpF l).fst,(xpE l).fst,br (xqk l) (xqi l).snd (xqj l).snd)
def xqg (l:LA):=(xqh l).getD (0,[])
def xqe (l:LA):=(xqg l).snd
def xqf (l:LA):=(xqg l).fst
def xq4 {T:Type} (l:LA) (δ:T) (κ:LA->T):T:=br ((Iter (xeX l (↑l.length:Int)) (0,0,[])).isSome) (br ((xj9 l).beq (xm7 l).length&&(decide (xj9 l<4611686018427387904)&&(xm7 l).all isS)) (br ((xpI l).isSome) (br ((xqn l).isSome) (br ((xqh l).isSome) (br (decide (0+xqf l<=(xqe l).length)&&true) (κ (List.take (xqf l) (List.drop 0 (xqe l)))) δ) δ) δ) δ) δ) δ
def xq3 (l:LA):=xq4 l none some
def xAO:EO:=xrt.f Tryz.func92 106 0 [] [(3,xid.lp),(11,xkv.lp),(17,xkw.lp),(15,xqD.lp)] (lks (lkC xid.ok (lkC xkv.ok (lkC xqD.ok (lkC xkw.ok lkN))))) (u1 (uL 3)) (fun (l,_) _=>xq4 l) (fun _ p=>AV.list 2 p) []
def xfd {T:Type} (d:LA) (e:Int) (c:Nat) (b:Int) (a:LA) (δ:T) (κl:(Nat×Int×LA)->T) (κr:(Nat×LA)->T):T:=br (decide (b<e)) (br (ixI d b) (br (ixT d b 2 [Sh.int .i64,Sh.int .i64] 0) (br (rmB c a 1 24) (κl (c+1,i64.wrap (b+1),a++[AV.agg [AV.int .i64 (gC d b 0).toInt,AV.int .i64 (gC d b 1).toInt,AV.int .i64 1]])) δ) δ) δ) (κr (c,a))
def xb0 (c:LA) (d:Int):StT (Nat×Int×LA) (Nat×LA):=fun (b,e,a)=>xfd c d b e a none inL inR
def xkL:=xAO.l 20 0 [] [] Tryz.f71 0 lk0 [3,6,7,8] [3] [(3,3,136)] (q4 (xH6 0 0 0) (qL 2) qI qI) (q1 (qB 0 3 136 xHZ)) (fun (b,c,d,e,_) (a,_)=>(xb0 c d,(b,e,a),fun p=>(.leaf (.exit 0) [AV.osl 0 0 0 p.1] [bF 0 3 136 p.2]))) (0,[]) fun (_,c,d,_,_) _ (b,e,a)=>(((b,c,d,e,()),(a,())),xfd c d b e a none)
def xi4 (l:LA):=(Iter (xb0 l (↑l.length:Int)) (0,0,[])).getD (0,[])
def xi2 (l:LA):=(xi4 l).fst
def xi3 (l:LA):=(xi4 l).snd
def xi1 (l:LA):=xq3 (List.take (xi2 l) (List.drop 0 (xi3 l)))
def xjw {T:Type} (l:LA) (δ:T) (κ:LA->T):T:=br ((Iter (xb0 l (↑l.length:Int)) (0,0,[])).isSome) (br (decide (0+xi2 l<=(xi3 l).length)&&true) (br ((xi1 l).isSome) (κ ((xi1 l).getD [])) δ) δ) δ
def xeI (l:LA):=xjw l none some
def xqp:EO:=xAO.f Tryz.func71 20 0 [] [(3,xkL.lp)] (lk1 xkL.ok) (u1 (uL 2)) (fun (l,_) _=>xjw l) (fun _ p=>AV.list 2 p) []
def xjo {T:Type} (o n:Int) (e f:Nat) (k p m j:Int) (h l i g a:Nat) (b:LA) (d:Nat) (c:LA) (δ:T) (κl:(Int×Int×Nat×Nat×Nat×Nat×Nat×LA×Nat×LA)->T) (κr:(Int×Nat×Nat×Nat×Nat×LA×Nat×LA×Nat)->T):T:=br (decide (m<p)) (br (a==e) (br (a==e) (br (a==e&&(decide (f<b.length)&&xHa (Sh.int .i64) ((b.getD f .top).cells.getD 0 .top))) (br (d==g&&(rmB i c 1 16)) (κl (i64.wrap (m+1),j,h,l,i+1,g+1,a,List.take h b,g+1,c++[AV.agg [AV.int .i64 ((b.getD f .top).cells.getD 0 .top).toInt,AV.int .i64 o]])) δ) δ) δ) δ) (κr (j,l,h,g,i,b,a,c,d))
def xcX (m n:Int) (e f:Nat) (k o:Int):StT (Int×Int×Nat×Nat×Nat×Nat×Nat×LA×Nat×LA) (Int×Nat×Nat×Nat×Nat×LA×Nat×LA×Nat):=fun (p,g,h,i,j,l,a,b,c,d)=>xjo m n e f k o p g h i j l a b c d none inL inR
def xiG:=xqp.l 71 5 [] [] Tryz.f89 1 lk0 [0,1,2,3,4,7,8,37,38] [0,1,2,3,4,7,8] [(3,0,0)] (q9 qI qI (xH7 0 0 0 0) (xH7 1 0 0 0) (xH7 2 0 0 0) (pOwnV 3 0) qI qI qI) (q5 (qB 0 1 3 (q1 qI)) (xH9 0 1 125 false false (q1 (pOslV 3 0))) (xH9 0 1 97 false false (q1 (pOslV 4 0))) (pBoxV 2 127 false true xHZ) (pBoxV 2 56 false true xHZ)) (fun (o,n,_,_,_,(e,f),k,q,r,_) ((g,_),((h,i),_),((j,m),_),(a,b),(c,d),_)=>(xcX o n e f k q,(r,g,i,h,m,j,a,b,c,d),fun p=>(.leaf (.exit 2) [AV.int .i64 o,AV.int .i64 n,AV.own 0 0 0 0,AV.own 1 0 0 0,AV.own 2 0 0 0,AV.own 3 e f 0,AV.int .i64 k] [bF 0 1 3 [AV.int .i64 p.1],⟨0,1,125,[AV.osl 3 p.2.1 0 p.2.2.1],false,false⟩,⟨0,1,97,[AV.osl 4 p.2.2.2.1 0 p.2.2.2.2.1],false,false⟩,bF p.2.2.2.2.2.2.1 2 127 p.2.2.2.2.2.1,bF p.2.2.2.2.2.2.2.2 2 56 p.2.2.2.2.2.2.2.1]))) (0,0,0,0,0,[],0,[],0) fun (o,n,_,_,_,(e,f),k,q,_,_) _ (r,g,i,h,m,j,a,b,c,d)=>(((o,n,(),(),(),(e,f),k,q,r,()),((g,()),((h,i),()),((j,m),()),(a,b),(c,d),())),xjo o n e f k q r g i h m j a b c d none)
def xa3 (a:Nat):Nat:=0+(i64.wrap ((↑a:Int) - 1)).toNat
def xdw (n b:Int) (c d:Nat) (a:LA):Int:=if i64.wrap (b - n)<((a.getD (xa3 c) .top).cells.getD 1 .top).toInt then i64.wrap (b - n) else ((a.getD (xa3 c) .top).cells.getD 1 .top).toInt
def xhC (j n d:Int) (c g h i a:Nat) (b:LA) (e:Nat) (f:LA):=Iter (xcX j n g (xa3 c) (xdw n d c a b) (xdw n d c a b)) (0,d,c,g,h,i,a,List.take c b,e,f)
def xfy (j n e:Int) (f g h i a:Nat) (b:LA) (c:Nat) (d:LA):=(xhC j n e f g h i a b c d).getD (0,0,0,0,0,[],0,[],0)
def xhB (j n e:Int) (f g h i a:Nat) (b:LA) (c:Nat) (d:LA):=(xfy j n e f g h i a b c d).snd
def xeM (j n e:Int) (f g h i a:Nat) (b:LA) (c:Nat) (d:LA):=(xhB j n e f g h i a b c d).fst
def xhA (j n e:Int) (f g h i a:Nat) (b:LA) (c:Nat) (d:LA):=(xhB j n e f g h i a b c d).snd
def xeL (j n e:Int) (f g h i a:Nat) (b:LA) (c:Nat) (d:LA):=(xhA j n e f g h i a b c d).fst
def xfw (j n e:Int) (f g h i a:Nat) (b:LA) (c:Nat) (d:LA):=(xhA j n e f g h i a b c d).snd
def xeK (j n e:Int) (f g h i a:Nat) (b:LA) (c:Nat) (d:LA):=i64.wrap ((↑(xeL j n e f g h i a b c d):Int) - 1)
def xfv (j n e:Int) (f g h i a:Nat) (b:LA) (c:Nat) (d:LA):=(xfw j n e f g h i a b c d).snd
def xhz (j n e:Int) (f g h i a:Nat) (b:LA) (c:Nat) (d:LA):=(xfv j n e f g h i a b c d).snd
def xf5 (j n e:Int) (f g h i a:Nat) (b:LA) (c:Nat) (d:LA):=(xhz j n e f g h i a b c d).fst
def xiF (j n e:Int) (f g h i a:Nat) (b:LA) (c:Nat) (d:LA):=(xhz j n e f g h i a b c d).snd
def xcW (j n f:Int) (g e h i a:Nat) (b:LA) (c:Nat) (d:LA):=(xiF j n f g e h i a b c d).fst==e
def xiE (j n f:Int) (e g h i a:Nat) (b:LA) (c:Nat) (d:LA):=decide (xa3 e<(xf5 j n f e g h i a b c d).length)
def xeJ (j n f:Int) (e g h i a:Nat) (b:LA) (c:Nat) (d:LA):=((xf5 j n f e g h i a b c d).getD (xa3 e) .top).cells
def xeN (j n e:Int) (f g h i a:Nat) (b:LA) (c:Nat) (d:LA):=(xiF j n e f g h i a b c d).snd
def xdX (j n f:Int) (e g h i a:Nat) (b:LA) (c:Nat) (d:LA):=(xf5 j n f e g h i a b c d).set (xa3 e) (AV.agg (List.take 1 (xeJ j n f e g h i a b c d)++[AV.int .i64 (i64.wrap (((xeJ j n f e g h i a b c d).getD 1 .top).toInt - xdw n f e a b))]++List.drop 2 (xeJ j n f e g h i a b c d)))
def xfe {T:Type} (j n g:Int) (f e h i a:Nat) (b:LA) (c:Nat) (d:LA) (δ:T) (κl:(Int×Nat×Nat×Nat×Nat×Nat×LA×Nat×LA)->T) (κr:(Int×Nat×Nat×Nat×Nat×LA×Nat×LA×Nat)->T):T:=br (decide (g>n)) (br (a==e) (br (a==e&&(decide (0<=i64.wrap ((↑f:Int) - 1))&&decide (i64.wrap ((↑f:Int) - 1)<(↑f:Int)))) (br (a==e) (br (a==e) (br (a==e&&(decide (xa3 f<b.length)&&xHa (Sh.int .i64) ((b.getD (xa3 f) .top).cells.getD 1 .top))) (br ((xhC j n g f e h i a b c d).isSome) (br (xcW j n g f e h i a b c d) (br (xcW j n g f e h i a b c d) (br (xcW j n g f e h i a b c d&&(xiE j n g f e h i a b c d&&xHa (Sh.int .i64) ((xeJ j n g f e h i a b c d).getD 1 .top))) (br (xcW j n g f e h i a b c d) (br (xcW j n g f e h i a b c d) (br (xcW j n g f e h i a b c d&&xiE j n g f e h i a b c d) (br (e==e) (br (e==e) (br (e==e&&(decide (xa3 f<(xdX j n g f e h i a b c d).length)&&xHa (Sh.int .i64) (((xdX j n g f e h i a b c d).getD (xa3 f) .top).cells.getD 1 .top))) (br ((((xdX j n g f e h i a b c d).getD (xa3 f) .top).cells.getD 1 .top).toInt==0) (br (e==xeM j n g f e h i a b c d) (br (e==xeM j n g f e h i a b c d&&(decide (0<=xeK j n g f e h i a b c d)&&decide (xeK j n g f e h i a b c d<=(↑(xeL j n g f e h i a b c d):Int))&&true)) (κl (i64.wrap ((xfy j n g f e h i a b c d).fst - xdw n g f a b),(xeK j n g f e h i a b c d).toNat - 0,xeM j n g f e h i a b c d,(xfv j n g f e h i a b c d).fst,(xfw j n g f e h i a b c d).fst,e,List.take ((xeK j n g f e h i a b c d).toNat - 0) (xdX j n g f e h i a b c d),(xeN j n g f e h i a b c d).snd,(xeN j n g f e h i a b c d).fst)) δ) δ) (κl (i64.wrap ((xfy j n g f e h i a b c d).fst - xdw n g f a b),xeL j n g f e h i a b c d,xeM j n g f e h i a b c d,(xfv j n g f e h i a b c d).fst,(xfw j n g f e h i a b c d).fst,e,List.take (xeL j n g f e h i a b c d) (xdX j n g f e h i a b c d),(xeN j n g f e h i a b c d).snd,(xeN j n g f e h i a b c d).fst))) δ) δ) δ) δ) δ) δ) δ) δ) δ) δ) δ) δ) δ) δ) δ) (κr (g,e,f,i,h,b,a,d,c))
def xb9 (j n:Int):StT (Int×Nat×Nat×Nat×Nat×Nat×LA×Nat×LA) (Int×Nat×Nat×Nat×Nat×LA×Nat×LA×Nat):=fun (e,f,g,h,i,a,b,c,d)=>xfe j n e f g h i a b c d none inL inR
def xpl:=xqp.l 71 5 [] [(7,xiG.lp)] Tryz.f89 0 (lk1 xiG.ok) [0,1,2,3,4] [] [(3,0,0)] (q5 qI qI (xH7 0 0 0 0) (xH7 1 0 0 0) (xH7 2 0 0 0)) (q5 (qB 0 1 3 (q1 qI)) (xH9 0 1 125 false false (q1 (pOslV 3 0))) (xH9 0 1 97 false false (q1 (pOslV 4 0))) (pBoxV 2 127 false true xHZ) (pBoxV 2 56 false true xHZ)) (fun (j,n,_,_,_,_) ((e,_),((f,g),_),((h,i),_),(a,b),(c,d),_)=>(xb9 j n,(e,g,f,i,h,a,b,c,d),fun p=>(.leaf (.exit 0) [] [bF 0 1 3 [AV.int .i64 p.1],⟨0,1,125,[AV.osl 3 p.2.1 0 p.2.2.1],false,false⟩,⟨0,1,97,[AV.osl 4 p.2.2.2.1 0 p.2.2.2.2.1],false,false⟩,bF p.2.2.2.2.2.2.1 2 127 p.2.2.2.2.2.1,bF p.2.2.2.2.2.2.2.2 2 56 p.2.2.2.2.2.2.2.1]))) (0,0,0,0,0,[],0,[],0) fun (j,n,_,_,_,_) _ (e,g,f,i,h,a,b,c,d)=>(((j,n,(),(),(),()),((e,()),((f,g),()),((h,i),()),(a,b),(c,d),())),xfe j n e g f i h a b c d none)
def xgy:Env:=xqp.E.fn 71 5 (lsOf []) (xHz [(7,xiG.lp),(3,xpl.lp)])
theorem xs2:xHc P0 (xHU.at 5) xgy:=xqp.ok.fn
theorem xrN:LoOk P0 (xHU.at xgy.pin) xgy (Tryz.f89.body.getD .skip):=xlv (ls:=[xHg Tryz.f89 0,xHg Tryz.f89 1]) (by kernel_rfl) (lkC xpl.ok (lkC xiG.ok lkN))
def xkl (a n h:Int) (b c:Nat) (d e:LA):=Iter (xb9 a n) (n,b+1,1,c,0,1,List.take (b+1) (d++[AV.agg [AV.int .i64 a,AV.int .i64 (i64.wrap (n - h))]]),0,e)
def xkm (a n h:Int) (b c:Nat) (d e:LA):=Iter (xb9 a n) (h,b,0,c,0,0,List.take b d,0,e)
def xkg (a n h:Int) (b c:Nat) (d e:LA):=(xkl a n h b c d e).getD (0,0,0,0,0,[],0,[],0)
def xkk (a n h:Int) (b c:Nat) (d e:LA):=(xkm a n h b c d e).getD (0,0,0,0,0,[],0,[],0)
def xk3 (a n h:Int) (b c:Nat) (d e:LA):=(xkg a n h b c d e).snd
def xkj (a n h:Int) (b c:Nat) (d e:LA):=(xkk a n h b c d e).snd
def xk0 (a n h:Int) (b c:Nat) (d e:LA):=(xk3 a n h b c d e).snd
def xki (a n h:Int) (b c:Nat) (d e:LA):=(xkj a n h b c d e).snd
def xkx (a n h:Int) (b c:Nat) (d e:LA):=(xk0 a n h b c d e).snd
def xkh (a n h:Int) (b c:Nat) (d e:LA):=(xki a n h b c d e).snd
def xkZ (a n h:Int) (b c:Nat) (d e:LA):=(xkx a n h b c d e).snd
def xkf (a n h:Int) (b c:Nat) (d e:LA):=(xkh a n h b c d e).snd
def xkY (a n h:Int) (b c:Nat) (d e:LA):=(xkZ a n h b c d e).snd
def xk4 (a n h:Int) (b c:Nat) (d e:LA):=(xkf a n h b c d e).snd
def xkX (a n h:Int) (b c:Nat) (d e:LA):=(xkY a n h b c d e).snd
def xk2 (a n h:Int) (b c:Nat) (d e:LA):=(xk4 a n h b c d e).snd
def xkW (a n h:Int) (b c:Nat) (d e:LA):=(xkX a n h b c d e).snd
def xk1 (a n h:Int) (b c:Nat) (d e:LA):=(xk2 a n h b c d e).snd
def xjM {T:Type} (a n h:Int) (b d:Nat) (c e:LA) (δ:T) (κ:Int×Nat×Nat×Nat×Nat×LA×Nat×LA×Nat->T):T:=br (decide (n>h)) (br (rmB b c 1 16) (br ((xkl a n h b d c e).isSome) (κ ((xkg a n h b d c e).fst,(xk3 a n h b d c e).fst,(xk0 a n h b d c e).fst,(xkx a n h b d c e).fst,(xkZ a n h b d c e).fst,(xkY a n h b d c e).fst,(xkX a n h b d c e).fst,(xkW a n h b d c e).fst,(xkW a n h b d c e).snd)) δ) δ) (br ((xkm a n h b d c e).isSome) (κ ((xkk a n h b d c e).fst,(xkj a n h b d c e).fst,(xki a n h b d c e).fst,(xkh a n h b d c e).fst,(xkf a n h b d c e).fst,(xk4 a n h b d c e).fst,(xk2 a n h b d c e).fst,(xk1 a n h b d c e).fst,(xk1 a n h b d c e).snd)) δ)
def xke (a n h:Int) (b c:Nat) (d e:LA):=xjM a n h b c d e none some
theorem xwq (a n h:Int) (b c:Nat) (d e:LA):Enc (fun (p:Int×Nat×Nat×Nat×Nat×LA×Nat×LA×Nat)=>(((AV.tuple [],([⟨0,1,3,[AV.int .i64 p.1],false,true⟩,⟨0,1,125,[AV.osl 3 p.2.1 0 p.2.2.1],false,false⟩,⟨0,1,97,[AV.osl 4 p.2.2.2.1 0 p.2.2.2.2.1],false,false⟩,⟨p.2.2.2.2.2.2.1,2,127,p.2.2.2.2.2.1,false,true⟩,⟨p.2.2.2.2.2.2.2.2,2,56,p.2.2.2.2.2.2.2.1,false,true⟩]:List Box))):(AV×List Box))) (xke a n h b c d e) (XFM P0 xgy Tryz.f89 (Tryz.f89.body.getD .skip) [AV.int .i64 a,AV.int .i64 n,AV.own (0:Id) 0 0 0,AV.own (1:Id) 0 0 0,AV.own (2:Id) 0 0 0] [{ ver:=0,sz:=1,ty:=(3:TypeId),xs:=[AV.int .i64 h],frz:=false,pm:=true },{ ver:=0,sz:=1,ty:=(125:TypeId),xs:=[AV.osl (3:Id) 0 0 b],frz:=false,pm:=false },{ ver:=0,sz:=1,ty:=(97:TypeId),xs:=[AV.osl (4:Id) 0 0 c],frz:=false,pm:=false },{ ver:=0,sz:=2,ty:=(127:TypeId),xs:=d,frz:=false,pm:=true },{ ver:=0,sz:=2,ty:=(56:TypeId),xs:=e,frz:=false,pm:=true }]):=by
 have h:XFM P0 xgy Tryz.f89 (Tryz.f89.body.getD .skip) [AV.int .i64 a,AV.int .i64 n,AV.own (0:Id) 0 0 0,AV.own (1:Id) 0 0 0,AV.own (2:Id) 0 0 0] [{ ver:=0,sz:=1,ty:=(3:TypeId),xs:=[AV.int .i64 h],frz:=false,pm:=true },{ ver:=0,sz:=1,ty:=(125:TypeId),xs:=[AV.osl (3:Id) 0 0 b],frz:=false,pm:=false },{ ver:=0,sz:=1,ty:=(97:TypeId),xs:=[AV.osl (4:Id) 0 0 c],frz:=false,pm:=false },{ ver:=0,sz:=2,ty:=(127:TypeId),xs:=d,frz:=false,pm:=true },{ ver:=0,sz:=2,ty:=(56:TypeId),xs:=e,frz:=false,pm:=true }]=xjM a n h b c d e none (fun (p:Int×Nat×Nat×Nat×Nat×LA×Nat×LA×Nat)=>some (((AV.tuple [],([⟨0,1,3,[AV.int .i64 p.1],false,true⟩,⟨0,1,125,[AV.osl 3 p.2.1 0 p.2.2.1],false,false⟩,⟨0,1,97,[AV.osl 4 p.2.2.2.1 0 p.2.2.2.2.1],false,false⟩,⟨p.2.2.2.2.2.2.1,2,127,p.2.2.2.2.2.1,false,true⟩,⟨p.2.2.2.2.2.2.2.2,2,56,p.2.2.2.2.2.2.2.1,false,true⟩]:List Box))):(AV×List Box))):=by kernel_rfl
 rw [h];unfold xke xjM;repeat' (first|refine Enc.br ?_ ?_|exact Enc.none|exact Enc.some rfl)
end Go.Sim.M
namespace Go.Sim
open Go.RowKit
theorem GoodM.aged {P:Program} {Inv:IV} {f:FuncId} {args:List AV} {H E:List Box} {p q v k t s y:Nat} {xs:List AV}
  (h:GoodM P Inv f args H (.tuple []) E) (hz:∀ bx,H[q]?=some bx->bx.ver=0)
  (ep:E[p]?=some ⟨0,1,t,[.osl (.b q) v 0 k],false,false⟩) (eq:E[q]?=some ⟨v,s,y,xs,false,true⟩) (pt:isC t=false) (py:isC y=false)
  (ho:∀ n bx,E[n]?=some bx->isC bx.ty=false/\(n=p\/n=q\/bx.pm=true\/∃ n' v' k',n'≠q/\bx.xs=[.osl (.b n') v' 0 k'])) :
  GoodM P Inv f args H (.tuple []) ((E.set p ⟨0,1,t,[.osl (.b q) 1 0 k],false,false⟩).set q ⟨1,s,y,xs,false,true⟩):=by
 have pq:p≠q:=fun e=>by
  subst e;rw [ep] at eq;simp at eq
 refine ⟨h.1,fun w0 w A M vs hI hB hR ab=>(h.2 w0 w A M vs hI hB hR ab).mono ?_⟩
 rintro e w' ⟨u,A',M',rfl,h1,h2,h3,h4,h5⟩;let M'':Id->Option MB:=fun id=>if id=.b q then (M' id).map fun m=>⟨m.b,1,m.sz,m.cap,m.ty⟩ else M' id
 have eo:∀ id,id≠.b q->M'' id=M' id:=fun id g1=>if_neg g1
 have e4:∀ m,M' (.b q)=some m->M'' (.b q)=some ⟨m.b,1,m.sz,m.cap,m.ty⟩:=fun m hm=>(if_pos rfl).trans (by rw [hm];rfl)
 have O:∀ id m1,M'' id=some m1->∃ m0,M' id=some m0/\m1.b=m0.b/\m1.cap=m0.cap:=fun id m1 J=>by
  by_cases g3:id=.b q
  . subst g3;cases hm:M' (.b q) with
    | none=>simp [M'',hm] at J
    | some m=>rw [e4 m hm] at J;simp only [z6] at J;subst J;exact ⟨m,rfl,rfl,rfl⟩
  . exact ⟨m1,eo id g3▸J,rfl,rfl⟩
 have Q:∀ n bx m,E[n]?=some bx->M' (.b n)=some m->BoxAt w' A' M' w0.heap.size (.b n) m bx:=fun n bx m hn hm=>by
  obtain ⟨bx',g1,g2⟩:=h4.box _ m hm;rw [xbH,hn] at g1;cases g1;exact g2
 have hv:∀ m,M' (.b q)=some m->v=m.ver:=fun m hm=>(Q q _ m eq hm).ver
 have hx:∀ c n' v' k',n'≠q->Rel w' A' M' c (.osl (.b n') v' 0 k')->Rel w' A' M'' c (.osl (.b n') v' 0 k'):=fun c n' v' k' hn hr=>by
  obtain ⟨m0,g1,g2,g3,g4⟩:=Rel.osl_inv hr;exact .osl c _ v' 0 k' m0 ((eo _ fun e=>hn (by cases e;rfl)).trans g1) g2 g3 g4
 have hy:∀ c,Rel w' A' M' c (.osl (.b q) v 0 k)->Rel w' A' M'' c (.osl (.b q) 1 0 k):=fun c hr=>by
  obtain ⟨m0,g1,g2,g3,g4⟩:=Rel.osl_inv hr;exact .osl c _ 1 0 k _ (e4 m0 g1) (zd _) g3 fun _=>g4 (hv m0 g1)
 have hb:∀ id (bx bx':Box) (m m':MB),isC bx.ty=false->bx'=⟨m'.ver,bx.sz,bx.ty,bx'.xs,bx.frz,bx.pm⟩->m'=⟨m.b,m'.ver,m.sz,m.cap,m.ty⟩->bx'.xs.length=bx.xs.length->(∀ x,x∈bx'.xs->x.okElem m.sz=true) ->
   (∀ c i j,Rel w' A' (MP M' bx.pm) c ((bx.xs.getD i .top).cells.getD j .top)->Rel w' A' (MP M'' bx.pm) c ((bx'.xs.getD i .top).cells.getD j .top))->BoxAt w' A' M' w0.heap.size id m bx->BoxAt w' A' M'' w0.heap.size id m' bx':=fun id bx bx' m m' U Z ad hl ac hc g=>by
  rw [Z,ad];have V:xHe m.ty=false:=g.nomap (xba U);refine ⟨rfl,g.sz,g.ty,g.capm,hl▸g.fits,ac,g.low,g.lt,fun h0=>?_,g.guard⟩
  obtain ⟨c,c1,c2,c3⟩:=g.cells h0;refine ⟨c,.of V (c1.plain V),c2,fun i j hi hj=>?_⟩
  have:=c3 i j (hl▸hi) hj;rw [xaS U,xbm U] at this;rw [xaS U,xbm (bx:=⟨m'.ver,bx.sz,bx.ty,bx'.xs,bx.frz,bx.pm⟩) U];exact hc _ i j this
 have ht:∀ a v1 v2 d,(∀ c,Rel w' A' M' c (.osl a v1 0 d)->Rel w' A' M'' c (.osl a v2 0 d))->∀ c i j,Rel w' A' M' c ((([.osl a v1 0 d]:List AV).getD i .top).cells.getD j .top)->Rel w' A' M'' c ((([.osl a v2 0 d]:List AV).getD i .top).cells.getD j .top):=fun a v1 v2 d hh c i j hr=>by
  match i,j with
  | 0,0=>exact hh c hr
  | 0,j+1=>exact .top _
  | i+1,0=>exact .top _
  | i+1,j+1=>exact .top _
 have hg:∀ n bx,E[n]?=some bx->∃ bx',((E.set p ⟨0,1,t,[.osl (.b q) 1 0 k],false,false⟩).set q ⟨1,s,y,xs,false,true⟩)[n]?=some bx'/\isC bx'.ty=false/\(∀ m m1,M' (.b n)=some m->M'' (.b n)=some m1->BoxAt w' A' M'' w0.heap.size (.b n) m1 bx'):=fun n bx hn=>by
  have hn':=xcV hn;obtain ⟨hC,hc⟩:=ho n bx hn;by_cases g1:n=q
  . subst g1;rw [hn] at eq;cases eq;refine ⟨_,zL (by simpa using hn'),py,fun m m1 e1 e2=>?_⟩
    rw [e4 m e1] at e2;cases e2;have g:=Q n _ m hn e1;exact hb _ ⟨v,s,y,xs,false,true⟩ ⟨1,s,y,xs,false,true⟩ m _ py rfl rfl rfl g.ok (fun c i j hr=>hr) g
  . have ge:∀ m m1,M' (.b n)=some m->M'' (.b n)=some m1->m1=m:=fun m m1 e1 e2=>by
     rw [eo _ fun e=>g1 (by cases e;rfl),e1] at e2;cases e2;rfl
    by_cases g2:n=p
    . subst g2;rw [hn] at ep;cases ep;refine ⟨_,(zX (Ne.symm g1)).trans (zL hn'),pt,fun m m1 e1 e2=>?_⟩
      cases ge m m1 e1 e2;have g:=Q n _ m hn e1;have hv:0=m.ver:=g.ver;have hz:m.sz=1:=g.sz.symm;exact hb _ ⟨0,1,t,[.osl (.b q) v 0 k],false,false⟩ ⟨0,1,t,[.osl (.b q) 1 0 k],false,false⟩ m m pt (by rw [<-hv]) rfl rfl (fun x hx=>by simp only [zv] at hx;subst hx;rw [hz];rfl) (ht _ _ _ _ hy) g
    . refine ⟨bx,(zX (Ne.symm g1)).trans ((zX (Ne.symm g2)).trans hn),hC,fun m m1 e1 e2=>?_⟩
      cases ge m m1 e1 e2;have g:=Q n _ m hn e1;refine hb _ bx bx m m hC (by rw [<-g.ver]) rfl rfl g.ok ?_ g
      rcases hc with hc|hc|hc|⟨n',v',k',hc,hd⟩
      . exact absurd hc g2
      . exact absurd hc g1
      . rw [hc];exact fun c i j hr=>hr
      . cases ae:bx.pm with
        | true=>exact fun c i j hr=>hr
        | false=>rw [hd];exact ht _ _ _ _ fun c=>hx c n' v' k' hc
 have hR':HR w' A' M'' w0.heap.size ((E.set p ⟨0,1,t,[.osl (.b q) 1 0 k],false,false⟩).set q ⟨1,s,y,xs,false,true⟩):=by
  refine ⟨fun id m1 J=>?_,fun id id' m1 m2 k1 k2 c1 c2 he=>?_,h4.lt⟩
  . obtain ⟨m0,g1,_⟩:=O id m1 J;obtain ⟨bx,q1,q2⟩:=h4.box _ m0 g1;cases id with
    | r n i j =>
     rw [eo _ (fun e=>by cases e),g1] at J
     cases J;obtain ⟨c0,r1,_⟩:=xmg q1;obtain ⟨bx',r2,r3,_⟩:=hg n c0 r1;rw [xd5 r1 (ho n c0 r1).1] at q1;cases q1;exact ⟨_,xd5 r2 r3,hb _ tombB tombB m1 m1 rfl (by rw [<-q2.ver]) rfl rfl q2.ok (fun c i j hr=>hr) q2⟩
    | b n =>
     obtain ⟨bx',r2,_,r3⟩:=hg n bx q1;exact ⟨bx',r2,r3 _ _ g1 J⟩
  . obtain ⟨n1,a1,a2,a3⟩:=O id m1 k1;obtain ⟨n2,b1,b2,b3⟩:=O id' m2 k2;exact h4.inj id id' n1 n2 a1 b1 (a3▸c1) (b3▸c2) (by rw [<-a2,<-b2,he])
 refine ⟨u,A',M'',rfl,h1,h2,⟨h3.size,h3.keep,h3.less,h3.more,fun id m aa hm=>?_,fun id m1 J h0=>?_⟩,hR',?_⟩
 . obtain ⟨m',g1,g2⟩:=h3.ids id m aa hm;by_cases q4:id=.b q
   . subst q4;obtain ⟨bx,r1,r2⟩:=hR.box _ m hm;exact ⟨_,e4 m' g1,.inr (by rw [<-r2.ver,hz bx r1];exact Nat.zero_lt_one)⟩
   . exact ⟨m',(eo id q4).trans g1,g2⟩
 . obtain ⟨m0,g1,g2,g3⟩:=O id m1 J;rw [g2];exact h3.src id m0 g1 (g3▸h0)
 . obtain ⟨Y,rfl,q1,_⟩:=h5.tuple_inv;exact .tuple Y [] q1 (by simp)
namespace M
open Go.Proofs
noncomputable def set2 (q n h:Int) (ns no:Nat) (sx ox:List AV):Option (Int×Nat×Nat×List AV×List AV):=(xke q n h ns no sx ox).bind fun p =>
 br (Nat.beq p.2.1 p.2.2.2.2.2.2.1&&Nat.beq p.2.2.2.1 p.2.2.2.2.2.2.2.2) (some (p.1,p.2.2.1,p.2.2.2.2.1,p.2.2.2.2.2.1,p.2.2.2.2.2.2.2.1)) none
noncomputable def xB5:List AV->List Box->Option (Bool×AV×List Box):=omOf (xHW (sEq (pInt IntKind.i64)) (xHW (sEq (pInt IntKind.i64)) (xHW (sEq (xH7 0 0 0 0)) (xHW (sEq (xH7 1 0 0 0)) (xHW (sEq (xH7 2 0 0 0)) xHY)))))
 (xHV (xH9 0 1 3 false true (xHV (pInt IntKind.i64) xHX)) (xHV (xH9 0 1 125 false false (xHV (xH6 3 0 0) xHX)) (xHV (xH9 0 1 97 false false (xHV (xH6 4 0 0) xHX)) (xHV (xH9 0 2 127 false true xHZ) (xHV (xH9 0 2 56 false true xHZ) xHX)))))
 fun (q,(n,(_,(_,(_,_))))) ((h,_),((ns,_),((no,_),(sx,(ox,_)))))=>((set2 q n h ns no sx ox).isSome,(.tuple [],[⟨0,1,3,[.int .i64 ((set2 q n h ns no sx ox).getD (0,0,0,[],[])).1],false,true⟩,⟨0,1,125,[.osl (.b 3) 1 0 ((set2 q n h ns no sx ox).getD (0,0,0,[],[])).2.1],false,false⟩,⟨0,1,97,[.osl (.b 4) 1 0 ((set2 q n h ns no sx ox).getD (0,0,0,[],[])).2.2.1],false,false⟩,⟨1,2,127,((set2 q n h ns no sx ox).getD (0,0,0,[],[])).2.2.2.1,false,true⟩,⟨1,2,56,((set2 q n h ns no sx ox).getD (0,0,0,[],[])).2.2.2.2,false,true⟩]))
theorem xFm:OmOk P0 xHU 89 xB5:=xlU fun vv bb rr Z hh=>by
 obtain ⟨J,⟨n,⟨_,⟨_,⟨_,_⟩⟩⟩⟩⟩:=vv;obtain ⟨⟨h,_⟩,⟨⟨ns,_⟩,⟨⟨no,_⟩,⟨sx,⟨ox,_⟩⟩⟩⟩⟩:=bb;obtain ⟨O,U⟩:=Prod.mk.inj hh;cases hs:xke J n h ns no sx ox with
 | none=>rw [show set2 J n h ns no sx ox=none by unfold set2;rw [hs];rfl] at O;simp at O
 | some p =>
  have V:set2 J n h ns no sx ox=br (Nat.beq p.2.1 p.2.2.2.2.2.2.1&&Nat.beq p.2.2.2.1 p.2.2.2.2.2.2.2.2) (some (p.1,p.2.2.1,p.2.2.2.2.1,p.2.2.2.2.2.1,p.2.2.2.2.2.2.2.1)) none:=by unfold set2;rw [hs];rfl
  cases ht:Nat.beq p.2.1 p.2.2.2.2.2.2.1&&Nat.beq p.2.2.2.1 p.2.2.2.2.2.2.2.2 with
  | false=>rw [V,ht] at O;simp [br] at O
  | true =>
   rw [ht] at V;have Y:set2 J n h ns no sx ox=some (p.1,p.2.2.1,p.2.2.2.2.1,p.2.2.2.2.2.1,p.2.2.2.2.2.2.2.1):=V;rw [Y] at U;simp only [zh] at U;simp only [zf] at ht;have e1:=zg ht.1;have e2:=zg ht.2;have hx:=xwq J n h ns no sx ox p hs;have hg:GoodM P0 xHU 89 _ _ _ _:=xgH (p:=xgy.pin) (xis xHl (xHm P0 _) rfl xs2 rfl Tryz.func89 rfl (by kernel_rfl) xrN hx)
   rw [<-e1,<-e2] at hg;have Q:=GoodM.aged (p:=1) (q:=3) hg (fun bx hb=>by cases hb;rfl) rfl rfl rfl rfl (fun n bx hn=>by
    match n with
    | 0=>cases hn;exact ⟨rfl,.inr (.inr (.inl rfl))⟩
    | 1=>cases hn;exact ⟨rfl,.inl rfl⟩
    | 2=>cases hn;exact ⟨rfl,.inr (.inr (.inr ⟨_,_,_,by decide,rfl⟩))⟩
    | 3=>cases hn;exact ⟨rfl,.inr (.inl rfl)⟩
    | 4=>cases hn;exact ⟨rfl,.inr (.inr (.inl rfl))⟩
    | n+5=>simp at hn)
   have Q:=GoodM.aged (p:=2) (q:=4) Q (fun bx hb=>by cases hb;rfl) rfl rfl rfl rfl (fun n bx hn=>by
    match n with
    | 0=>cases hn;exact ⟨rfl,.inr (.inr (.inl rfl))⟩
    | 1=>cases hn;exact ⟨rfl,.inr (.inr (.inr ⟨_,_,_,by decide,rfl⟩))⟩
    | 2=>cases hn;exact ⟨rfl,.inl rfl⟩
    | 3=>cases hn;exact ⟨rfl,.inr (.inr (.inl rfl))⟩
    | 4=>cases hn;exact ⟨rfl,.inr (.inl rfl)⟩
    | n+5=>simp at hn)
   obtain ⟨rfl,rfl⟩:=Prod.mk.inj U;exact Q
noncomputable def ESet:Env:=xqp.E.withM 89 xB5
theorem xDA:xHc P0 xHU ESet:=xqp.ok.withM xFm
noncomputable def xyX:EO:=EO.mk ESet xDA
end M
end Go.Sim
namespace Go.Sim.M
open Go.IntKind (i64 u64 u8)
open Go.RowKit Go.Proofs
def xj8 (a:LA) (h b:Int) (f c:Nat) (g:Int) (d e:LA):Int:=if 0>(gC a b 1).toInt then 0 else (gC a b 1).toInt
def xj7 (f:LA) (h g:Int) (d a:Nat) (e:Int) (b c:LA):=set2 (gC f g 0).toInt (if 1048576<xj8 f h g d a e b c then 1048576 else xj8 f h g d a e b c) e a d c b
def xj6 (f:LA) (g h:Int) (d a:Nat) (e:Int) (b c:LA):=(xj7 f g h d a e b c).getD (0,0,0,[],[])
def xj5 (f:LA) (g h:Int) (d a:Nat) (e:Int) (b c:LA):=(xj6 f g h d a e b c).snd
def xj3 (f:LA) (g h:Int) (d a:Nat) (e:Int) (b c:LA):=(xj5 f g h d a e b c).fst
def xj4 (f:LA) (g h:Int) (d a:Nat) (e:Int) (b c:LA):=(xj5 f g h d a e b c).snd
def xj2 (f:LA) (g h:Int) (d a:Nat) (e:Int) (b c:LA):=(xj4 f g h d a e b c).snd
def xhL {T:Type} (g:LA) (h e:Int) (d a:Nat) (f:Int) (b c:LA) (δ:T) (κl:(Int×Nat×Nat×Int×LA×LA)->T) (κr:(Nat×Int×Nat×LA×LA)->T):T:=br (decide (e<h)) (br (ixI g e) (br (ixT g e 2 [Sh.int .i64,Sh.int .i64] 0) (br ((xj7 g h e d a f b c).isSome) (κl (i64.wrap (e+1),(xj4 g h e d a f b c).fst,xj3 g h e d a f b c,(xj6 g h e d a f b c).fst,(xj2 g h e d a f b c).snd,List.take (xj3 g h e d a f b c) (xj2 g h e d a f b c).fst)) δ) δ) δ) (κr (d,f,a,b,c))
def xdv (f:LA) (g:Int):StT (Int×Nat×Nat×Int×LA×LA) (Nat×Int×Nat×LA×LA):=fun (h,d,a,e,b,c)=>xhL f g h d a e b c none inL inR
def xon:=xyX.l 30 0 [] [] Tryz.f70 0 lk0 [3,4,6,10,11,12] [3,6] [(3,2,56),(4,2,127),(4,0,0)] (q6 (xH7 0 0 0 0) (xH7 1 0 0 0) (xHA 89 (q3 (xH7 2 0 0 0) (xH7 1 0 0 0) (xH7 0 0 0 0))) (qL 2) qI qI) (q5 (xH9 0 1 97 false false (q1 (xH6 3 0 0))) (xH9 0 1 125 false false (q1 (xH6 4 0 0))) (qB 0 1 3 (q1 qI)) (qB 0 2 56 xHZ) (qB 0 2 127 xHZ)) (fun (_,_,(_,_,_,_),f,g,h,_) ((d,_),(a,_),(e,_),b,c,_)=>(xdv f g,(h,d,a,e,b,c),fun p=>(.leaf (.exit 0) [AV.own 0 0 0 0,AV.func 89 [AV.own 1 0 0 0,AV.own 2 0 0 0,AV.own 0 0 0 0]] [⟨0,1,97,[AV.osl 3 0 0 p.1],false,false⟩,bF 0 1 3 [AV.int .i64 p.2.1],⟨0,1,125,[AV.osl 4 0 0 p.2.2.1],false,false⟩,bF 0 2 56 p.2.2.2.1,bF 0 2 127 p.2.2.2.2]))) (0,0,0,[],[]) fun (_,_,(_,_,_,_),f,g,_,_) _ (h,d,a,e,b,c)=>((((),(),((),(),(),()),f,g,h,()),((d,()),(a,()),(e,()),b,c,())),xhL f g h d a e b c none)
def xm6 (l:LA):=Iter (xdv l (↑l.length:Int)) (0,0,0,0,[],[])
def xm5 (l:LA):=(xm6 l).getD (0,0,0,[],[])
def xm4 (l:LA):=(xm5 l).snd
def xm3 (l:LA):=(xm4 l).snd
def xm2 (l:LA):=(xm3 l).snd
def xm1 (l:LA):=set2 1099511627776 0 (xm4 l).fst (xm3 l).fst (xm5 l).fst (xm2 l).snd (xm2 l).fst
def xm0 (l:LA):=((xm1 l).getD (0,0,0,[],[])).snd.snd
def xhe (l:LA):=(xm0 l).fst
def xhf (l:LA):=(xm0 l).snd.snd
def xnN {T:Type} (l:LA) (δ:T) (κ:LA->T):T:=br ((xm6 l).isSome) (br ((xm1 l).isSome) (br ((xhe l).beq (xhf l).length&&(decide (xhe l<4611686018427387904)&&(xhf l).all isP)) (br (decide (0+xhe l<=(srtP (xhf l)).length)&&true) (κ (List.take (xhe l) (List.drop 0 (srtP (xhf l))))) δ) δ) δ) δ
def xmx (l:LA):=xnN l none some
def xEI:EO:=xyX.f Tryz.func70 30 0 [] [(6,xon.lp)] (lk1 xon.ok) (u1 (uL 2)) (fun (l,_) _=>xnN l) (fun _ p=>AV.list 2 p) []
def xl4 {T:Type} (a:LA) (δ:T) (κ:LA->T):T:=br ((↑a.length:Int)==1) (κ (a)) (br ((xeI a).isSome) (br ((xmx ((xeI a).getD [])).isSome) (κ ((xmx ((xeI a).getD [])).getD [])) δ) δ)
def xft (a:LA):=xl4 a none some
def xvN:EO:=xEI.f Tryz.func69 10 0 [] [] lk0 (u1 (uL 2)) (fun (a,_) _=>xl4 a) (fun _ p=>AV.list 2 p) []
def xfc {T:Type} (h:LA) (i j:Int) (e:LA) (f:Int) (d:Nat) (c:Int) (a b g:LA) (δ:T) (κl:(Nat×Int×LA×LA×LA)->T) (κr:(Nat×LA)->T):T:=br (decide (c<f)) (br (ixI e c) (br (ixT e c 2 [Sh.int .i64,Sh.int .i64] 0) (br (decide (b.length*32<=140737488355328)&&decide (b.length<=4611686018427387904)) (br (decide (0+b.length<=b.length)&&true&&true&&true&&true) (br (rmB d a 1 40) (κl (d+1,i64.wrap (c+1),a++[AV.agg [AV.list 3 (List.take b.length (List.drop 0 b)),AV.int .i64 (gC e c 0).toInt,AV.int .i64 (gC e c 1).toInt]],b,g)) δ) δ) δ) δ) δ) (κr (d,a))
def xbx (c:LA) (d e:Int) (f:LA) (g:Int):StT (Nat×Int×LA×LA×LA) (Nat×LA):=fun (b,h,a,i,j)=>xfc c d e f g b h a i j none inL inR
def xex:=xvN.l 38 0 [60] [] Tryz.f68 1 lk0 [1,5,7,11,12,13,20,21,22] [1,5,11,12,13] [(5,3,60)] (q9 (xHA 69 xHX) (xH6 0 0 0) (xH7 1 0 0 0) (qL 2) qI qI (qL 2) qI qI) (q2 (qB 0 3 60 xHZ) (qB 0 2 124 (q1 (xH8 (q2 (qL 3) (qL 2)))))) (fun (_,b,_,c,d,e,f,g,h,_) (a,((i,j,_),_),_)=>(xbx c d e f g,(b,h,a,i,j),fun p=>(.leaf (.exit 2) [AV.func 69 [],AV.osl 0 0 0 p.1,AV.list 2 c,AV.int .i64 d,AV.int .i64 e] [bF 0 3 60 p.2]))) (0,[]) fun (_,_,_,c,d,e,f,g,_,_) _ (b,h,a,i,j)=>((((),b,(),c,d,e,f,g,h,()),(a,((i,j,()),()),())),xfc c d e f g b h a i j none)
def xhm (a:LA) (e:Int) (d:Nat) (b:Int) (c:LA):=Iter (xbx a e b ((xft (gC a b 1).toList).getD []) (↑((xft (gC a b 1).toList).getD []).length:Int)) (d,0,c,(gC a b 0).toList,(gC a b 1).toList)
def xhl (c:LA) (d:Int) (b:Nat) (e:Int) (a:LA):=(xhm c d b e a).getD (0,[])
def xfb {T:Type} (d:LA) (e:Int) (c:Nat) (b:Int) (a:LA) (δ:T) (κl:(Nat×Int×LA)->T) (κr:(Nat×LA)->T):T:=br (decide (b<e)) (br (ixI d b) (br (ixT d b 2 [Sh.list 3,Sh.list 2] 0) (br ((xft (gC d b 1).toList).isSome) (br ((xhm d e c b a).isSome) (κl ((xhl d e c b a).fst,i64.wrap (b+1),(xhl d e c b a).snd)) δ) δ) δ) δ) (κr (c,a))
def xcR (c:LA) (d:Int):StT (Nat×Int×LA) (Nat×LA):=fun (b,e,a)=>xfb c d b e a none inL inR
def xkK:=xvN.l 38 0 [60] [(6,xex.lp)] Tryz.f68 0 (lk1 xex.ok) [1,5,11,12,13] [5] [(5,3,60)] (q5 (xHA 69 xHX) (xH6 0 0 0) (qL 2) qI qI) (q1 (qB 0 3 60 xHZ)) (fun (_,b,c,d,e,_) (a,_)=>(xcR c d,(b,e,a),fun p=>(.leaf (.exit 0) [AV.osl 0 0 0 p.1] [bF 0 3 60 p.2]))) (0,[]) fun (_,_,c,d,_,_) _ (b,e,a)=>((((),b,c,d,e,()),(a,())),xfb c d b e a none)
def xi0 (l:LA):=Iter (xcR ((xiP l).getD []) (↑((xiP l).getD []).length:Int)) (0,0,[])
def xix (l:LA):=(xi0 l).getD (0,[])
def xiY (l:LA):=(xix l).fst
def xiZ (l:LA):=(xix l).snd
def xjv {T:Type} (l:LA) (δ:T) (κ:LA->T):T:=br ((xiP l).isSome) (br ((xi0 l).isSome) (br (decide (0+xiY l<=(xiZ l).length)&&true) (κ (List.take (xiY l) (List.drop 0 (xiZ l)))) δ) δ) δ
def xld (l:LA):=xjv l none some
def xEJ:EO:=xvN.f Tryz.func68 38 0 [60] [(6,xex.lp),(3,xkK.lp)] (lks (lkC xkK.ok (lkC xex.ok lkN))) (u2 (uL 3) (sEq (xHA (69:FuncId) xHX))) (fun (l,_,_) _=>xjv l) (fun _ p=>AV.list 3 p) []
def xnj {T:Type} (l:LA) (δ:T) (κ:LA->T):T:=br ((xld l).isSome) (κ ((xld l).getD [])) δ
def xck (l:LA):=xnj l none some
def xEK:EO:=xEJ.f Tryz.func38 5 0 [] [] lk0 (u1 (uL 3)) (fun (l,_) _=>xnj l) (fun _ p=>AV.list 3 p) []
def xgV (b a:Bool):Int:=(br (b) (((-1))) (br (a) ((1)) ((0))))
def xwN {T:Type} (b a:Bool) (δ:T) (κ:Int->T):T:=br (b) (κ ((-1))) (br (a) (κ (1)) (κ (0)))
def xEL:EO:=xEK.fT Tryz.func81 7 0 [] [] lk0 (fun (b,a,_)=>xwN b a none) (u2 (sEq pBool) (sEq pBool)) (fun (b,a,_)=>xgV b a) (fun _ p=>(AV.int .i64 p))
def xgB (a b:Int) (c:List UInt8) (d e:Int) (f:List UInt8):Int:=(br (a != d) ((xgV (decide (a<d)) (decide (a>d)))) (br (b != e) ((xgV (decide (b<e)) (decide (b>e)))) ((xgV (Op.bytesLess c f) !(Op.bytesLess c f || c==f)))))
def xt2 {T:Type} (a b:Int) (c:List UInt8) (d e:Int) (f:List UInt8) (δ:T) (κ:Int->T):T:=br (a != d) (κ (xgV (decide (a<d)) (decide (a>d)))) (br (b != e) (κ (xgV (decide (b<e)) (decide (b>e)))) (κ (xgV (Op.bytesLess c f) !(Op.bytesLess c f || c==f))))
def xAP:EO:=xEL.fT Tryz.func61 48 0 [] [] lk0 (fun ((a,b,c,_),(d,e,f,_),_)=>xt2 a b c d e f none) (u2 (xIb (u3 uI uI (sEq pStr))) (xIb (u3 uI uI (sEq pStr)))) (fun ((a,b,c,_),(d,e,f,_),_)=>xgB a b c d e f) (fun _ p=>(AV.int .i64 p))
def xdO (a b:LA) (i:Int):=xgB (gC a i 0).toInt (gC a i 1).toInt (gC a i 2).toStr (gC b i 0).toInt (gC b i 1).toInt (gC b i 2).toStr
def xd7 {T:Type} (a b:LA) (i:Int) (δ:T) (κl:(Int)->T) (κr:(Bool×(Int)×(Unit))->T):T:=br (decide (i<a.length)) (br (decide (i<b.length)) (br (ixI a i) (br (ixT a i 3 [Sh.int .i64,Sh.int .i64,Sh.str] 0) (br (ixI b i) (br (ixT b i 3 [Sh.int .i64,Sh.int .i64,Sh.str] 0) (br (xdO a b i != 0) (κr (true,(xdO a b i),())) (κl (i64.wrap (i+1)))) δ) δ) δ) δ) (κr (false,0,()))) (κr (false,0,()))
def xbd (a b:LA):StT (Int) (Bool×(Int)×(Unit)):=fun (i)=>xd7 a b i none inL inR
def xnf:=xAP.l 41 0 [] [] Tryz.f29 0 lk0 [0,1,5] [0,1,4] [] (q3 (qL 3) (qL 3) qI) xHX (fun (a,b,i,_) _=>(xbd a b,(i),fun p=>(.node p.1 (.leaf .ret [AV.list 3 a,AV.list 3 b,AV.int .i64 p.2.1] []) (.leaf (.exit 0) [AV.list 3 a,AV.list 3 b,.top] [])))) (false,0,()) fun (a,b,_,_) _ (i)=>(((a,b,i,()),()),xd7 a b i none)
def xmw {T:Type} (a b:LA) (δ:T) (κ:Int->T):T:=br ((Iter (xbd a b) 0).isSome) (br (((Iter (xbd a b) 0).getD (false,0,())).fst) (κ (((Iter (xbd a b) 0).getD (false,0,())).snd.fst)) (br (decide ((↑a.length:Int)<(↑b.length:Int))) (κ ((-1))) (br (decide ((↑a.length:Int)>(↑b.length:Int))) (κ (1)) (κ (0))))) δ
def xa8 (a b:LA):=xmw a b none some
def xEM:EO:=xAP.f Tryz.func29 41 0 [] [(2,xnf.lp)] (lk1 xnf.ok) (u2 (uL 3) (uL 3)) (fun (a,b,_) _=>xmw a b) (fun _ p=>AV.int .i64 p) 0
def xoD {T:Type} (a b:LA) (δ:T) (κ:Bool->T):T:=br ((xa8 a b).isSome) (κ ((xa8 a b).getD 0==0)) δ
def xp8 (a b:LA):=xoD a b none some
def xAQ:EO:=xEM.f Tryz.func120 9 0 [] [] lk0 (u2 (uL 3) (uL 3)) (fun (a,b,_) _=>xoD a b) (fun _ p=>AV.bool p) false
def xfN {T:Type} (a b:LA) (i:Int) (δ:T) (κl:(Int)->T) (κr:(Bool×(Bool)×(Unit))->T):T:=br (decide (i<a.length)) (br (ixI a i) (br (ixT a i 3 [Sh.int .i64,Sh.int .i64] 1) (br (ixI b i) (br (ixT b i 3 [Sh.int .i64,Sh.int .i64] 1) (br (!((gC a i 1).toInt==(gC b i 1).toInt&&((gC a i 2).toInt==(gC b i 2).toInt&&true))) (κr (true,(false),())) (br (ixI a i) (br (ixS a i (Sh.list 3) 0) (br (ixI b i) (br (ixS b i (Sh.list 3) 0) (br ((xa8 (gC a i 0).toList (gC b i 0).toList).isSome) (br ((xa8 (gC a i 0).toList (gC b i 0).toList).getD 0 != 0) (κr (true,(false),())) (κl (i64.wrap (i+1)))) δ) δ) δ) δ) δ)) δ) δ) δ) δ) (κr (false,false,()))
def xbF (a b:LA):StT (Int) (Bool×(Bool)×(Unit)):=fun (i)=>xfN a b i none inL inR
def xlX:=xAQ.l 42 0 [] [] Tryz.f11 0 lk0 [0,1,5] [4] [] (q3 (qL 3) (qL 3) qI) xHX (fun (a,b,i,_) _=>(xbF a b,(i),fun p=>(.node p.1 (.leaf .ret [AV.bool p.2.1] []) (.leaf (.exit 0) [.top] [])))) (false,false,()) fun (a,b,_,_) _ (i)=>(((a,b,i,()),()),xfN a b i none)
def xkH {T:Type} (a b:LA) (δ:T) (κ:Bool->T):T:=br ((↑a.length:Int) != (↑b.length:Int)) (κ (false)) (br ((Iter (xbF a b) 0).isSome) (br (((Iter (xbF a b) 0).getD (false,false,())).fst) (κ (((Iter (xbF a b) 0).getD (false,false,())).snd.fst)) (κ (true))) δ)
def xjr (a b:LA):=xkH a b none some
def xAR:EO:=xAQ.f Tryz.func11 42 0 [] [(4,xlX.lp)] (lk1 xlX.ok) (u2 (uL 3) (uL 3)) (fun (a,b,_) _=>xkH a b) (fun _ p=>AV.bool p) false
def xea (a b:LA) (i k:Int):=decide ((xa8 (gC b k 0).toList (gC a i 0).toList).getD 0<0)
def xeb (a:LA) (i:Int):=decide (i.toNat<a.length)&&((a.getD i.toNat .top).cells.length==3&&xHh [Sh.list 3,Sh.int .i64,Sh.int .i64] (a.getD i.toNat .top).cells 0)
def xec (b:LA) (k:Int):=decide (k.toNat<b.length)&&((b.getD k.toNat .top).cells.length==3&&xHh [Sh.list 3,Sh.int .i64,Sh.int .i64] (b.getD k.toNat .top).cells 0)
def xc3 (b:LA) (k:Int):=ixI b k
def xc4 (a:LA) (i:Int):=ixI a i
def xcA {T:Type} (b:LA) (c:Nat) (i k:Int) (a:LA) (δ:T) (κl:(Nat×Int×Int×LA)->T):T:=br (xc3 b k) (br (xec b k) (br (rmB c a 1 40) (κl (c+1,i,i64.wrap (k+1),a++[AV.agg [AV.list 3 (gC b k 0).toList,AV.int .i64 (gC b k 1).toInt,AV.int .i64 (gC b k 2).toInt]])) δ) δ) δ
def xcB {T:Type} (a:LA) (c:Nat) (i k:Int) (b:LA) (δ:T) (κl:(Nat×Int×Int×LA)->T):T:=br (xc4 a i) (br (xeb a i) (br (rmB c b 1 40) (κl (c+1,i64.wrap (i+1),k,b++[AV.agg [AV.list 3 (gC a i 0).toList,AV.int .i64 (gC a i 1).toInt,AV.int .i64 (gC a i 2).toInt]])) δ) δ) δ
def xcz {T:Type} (a b:LA) (d:Nat) (i k:Int) (c:LA) (δ:T) (κl:(Nat×Int×Int×LA)->T):T:=br (i==(↑a.length:Int)) (xcA b d i k c δ κl) (br (decide (k<b.length)) (br (xc3 b k) (br (ixS b k (Sh.list 3) 0) (br (xc4 a i) (br (ixS a i (Sh.list 3) 0) (br ((xa8 (gC b k 0).toList (gC a i 0).toList).isSome) (br (xea a b i k) (xcA b d i k c δ κl) (xcB a d i k c δ κl)) δ) δ) δ) δ) δ) (xcB a d i k c δ κl))
def xdz {T:Type} (a b:LA) (d:Nat) (i k:Int) (c:LA) (δ:T) (κl:(Nat×Int×Int×LA)->T) (κr:(Nat×LA)->T):T:=br (decide (i<a.length)) (xcz a b d i k c δ κl) (br (decide (k<b.length)) (xcz a b d i k c δ κl) (κr (d,c)))
def xbp (a b:LA):StT (Nat×Int×Int×LA) (Nat×LA):=fun (d,i,k,c)=>xdz a b d i k c none inL inR
def xok:=xAR.l 61 0 [] [] Tryz.f97 0 lk0 [0,1,5,6,7] [5] [(5,3,60)] (q5 (qL 3) (qL 3) (xH6 0 0 0) qI qI) (q1 (qB 0 3 60 xHZ)) (fun (a,b,d,i,k,_) (c,_)=>(xbp a b,(d,i,k,c),fun p=>(.leaf (.exit 0) [AV.osl 0 0 0 p.1] [bF 0 3 60 p.2]))) (0,[]) fun (a,b,_,_,_,_) _ (d,i,k,c)=>(((a,b,d,i,k,()),(c,())),xdz a b d i k c none)
def xmU (a b:LA):=Iter (xbp a b) (0,0,0,[])
def xmT (a b:LA):=(xmU a b).getD (0,[])
def xmR (a b:LA):=(xmT a b).snd
def xmS (a b:LA):=(xmT a b).fst
def xnH {T:Type} (a b:LA) (δ:T) (κ:LA->T):T:=br ((xmU a b).isSome) (br (decide (0+xmS a b<=(xmR a b).length)&&true) (κ (List.take (xmS a b) (List.drop 0 (xmR a b)))) δ) δ
def xpA (a b:LA):=xnH a b none some
def xtn:EO:=xAR.f Tryz.func97 61 0 [] [(3,xok.lp)] (lk1 xok.ok) (u2 (uL 3) (uL 3)) (fun (a,b,_) _=>xnH a b) (fun _ p=>AV.list 3 p) []
def xjY (R:LA->Option (LA)):LA->Option (Bool×AV):=ocOf (xHW (xIa 3 xHZ) xHY) fun (l,_)=>((R l).isSome,AV.list 3 ((R l).getD []))
def xeW (R:LA->Option (LA)):Env:=(xtn.E.with 82 (xjY R)).fn 20 0 (lsOf []) (xHz [])
def xi8 (R:LA->Option (LA)):Prop:=OcOk P0 xHU 82 (xjY R)
theorem xrp (R:LA->Option (LA)) (a:xi8 R):xHc P0 (xHU.at 0) (xeW R):=(xtn.ok.with a).fn
theorem xqz (R:LA->Option (LA)):LoOk P0 (xHU.at (xeW R).pin) (xeW R) (Tryz.f82.body.getD .skip):=xeO (by kernel_rfl)
def xlG (l:LA):=decide (0<=i64.wrap ((↑l.length:Int).tdiv 2))&&decide (i64.wrap ((↑l.length:Int).tdiv 2)<=(↑l.length:Int))
def xlH (R:LA->Option (LA)) (l:LA):Option (LA):=R (List.take (l.length - (i64.wrap ((↑l.length:Int).tdiv 2)).toNat) (List.drop (i64.wrap ((↑l.length:Int).tdiv 2)).toNat l))
def xlF (R:LA->Option (LA)) (l:LA):Option (LA):=xpA ((R (List.take ((i64.wrap ((↑l.length:Int).tdiv 2)).toNat - 0) (List.drop 0 l))).getD []) ((xlH R l).getD [])
def xfg {T:Type} (R:LA->Option (LA)) (l:LA) (δ:T) (κ:LA->T):T:=br (decide ((↑l.length:Int)<2)) (κ (l)) (br (xlG l&&true) (br ((R (List.take ((i64.wrap ((↑l.length:Int).tdiv 2)).toNat - 0) (List.drop 0 l))).isSome) (br (xlG l) (br ((xlH R l).isSome) (br ((xlF R l).isSome) (κ ((xlF R l).getD [])) δ) δ) δ) δ) δ)
def xcl (R:LA->Option (LA)) (l:LA):=xfg R l none some
theorem xt6 (R:LA->Option (LA)) (l:LA):Enc (fun (p:LA)=>((AV.list 3 p):AV)) (xcl R l) (XF P0 (xeW R) Tryz.f82 (Tryz.f82.body.getD .skip) [AV.list 3 l]):=by
 have h:XF P0 (xeW R) Tryz.f82 (Tryz.f82.body.getD .skip) [AV.list 3 l]=xfg R l none (fun (p:LA)=>some ((AV.list 3 p):AV)):=by kernel_rfl
 rw [h];unfold xcl xfg;repeat' (first|refine Enc.br ?_ ?_|exact Enc.none|exact Enc.some rfl)
def xt5 (R:LA->Option (LA)):LA->Option (Bool×AV):=ocOf (xHW (xIa 3 xHZ) xHY) fun (l,_)=>((xcl R l).isSome,(AV.list 3 ((xcl R l).getD [])))
theorem xt4 (R:LA->Option (LA)) (c:xi8 R):OcOk P0 xHU 82 (xt5 R):=xlT fun e g f=>by
 obtain ⟨l,_⟩:=e;obtain ⟨a,b⟩:=Prod.mk.inj f;refine xiC (p:=(xeW R).pin) (xlR xHl (xHm P0 _) rfl (xrp R c) Tryz.func82 rfl (by kernel_rfl) (xqz R) ((xt6 R _ _ (xcr (d:=[]) a)).trans ?_))
 exact congrArg some b
def xbL:Nat->LA->Option (LA)
 | 0=>fun _=>none
 | fu_+1=>fun l=>xcl (xbL fu_) l
theorem xol:∀ n,xi8 (xbL n)
 | 0=>xlT fun _ _ h=>absurd (Prod.mk.inj h).1 Bool.false_ne_true
 | fu_+1=>fun a r h=>xt4 (xbL fu_) (xol fu_) a r h
def xAS:Env:=xtn.E.with 82 (xjY (xbL 100))
theorem xAU:xHc P0 xHU xAS:=xtn.ok.with (xol _)
def xAT:EO:=EO.mk xAS xAU
def xe0 (a b:Int):Bool:=(br (decide (a>=0)) (br (decide (a<b)) ((decide (b<=1099511627776))) ((false))) ((false)))
def xvC {T:Type} (a b:Int) (δ:T) (κ:Bool->T):T:=br (decide (a>=0)) (br (decide (a<b)) (κ (decide (b<=1099511627776))) (κ (false))) (κ (false))
def xEN:EO:=xAT.fT Tryz.func59 18 0 [] [] lk0 (fun ((a,b,_),_)=>xvC a b none) (u1 (xIb (u2 uI uI))) (fun ((a,b,_),_)=>xe0 a b) (fun _ p=>(AV.bool p))
def xko (a b t:Int):Bool:=(br (xe0 a b) (br (decide (a<=t)) ((decide (t<b))) ((false))) ((false)))
def xta {T:Type} (a b t:Int) (δ:T) (κ:Bool->T):T:=br (xe0 a b) (br (decide (a<=t)) (κ (decide (t<b))) (κ (false))) (κ (false))
def xEO:EO:=xEN.fT Tryz.func121 19 0 [] [] lk0 (fun ((a,b,_),t,_)=>xta a b t none) (u2 (xIb (u2 uI uI)) uI) (fun ((a,b,_),t,_)=>xko a b t) (fun _ p=>(AV.bool p))
def xk5 (a b c d:Int):Int:=(br (a==c&&(b==d&&true)) ((0)) (br (decide (a<c)) (((-1))) (br (a==c) (br (decide (b<d)) (((-1))) ((1))) ((1)))))
def xt0 {T:Type} (a b c d:Int) (δ:T) (κ:Int->T):T:=br (a==c&&(b==d&&true)) (κ (0)) (br (decide (a<c)) (κ ((-1))) (br (a==c) (br (decide (b<d)) (κ ((-1))) (κ (1))) (κ (1))))
def xDy:EO:=xEO.fT Tryz.func101 27 0 [] [] lk0 (fun ((a,b,_),(c,d,_),_)=>xt0 a b c d none) (u2 (xIb (u2 uI uI)) (xIb (u2 uI uI))) (fun ((a,b,_),(c,d,_),_)=>xk5 a b c d) (fun _ p=>(AV.int .i64 p))
def xAl:Int×Int×List UInt8:=((0,0,[]))
def xwM {T:Type} (δ:T) (κ:Int×Int×List UInt8->T):T:=κ (0,0,[])
def xDz:EO:=xDy.fT Tryz.func180 2 0 [] [] lk0 (fun _=>xwM none) xHY (fun _=>xAl) (fun _ p=>(AV.agg [AV.int .i64 p.1,AV.int .i64 p.2.1,AV.str p.2.2]))
def xt3 {T:Type} (a:LA) (i:Int) (δ:T) (κ:Int×Int×List UInt8->T):T:=br (decide (i<0)) (κ (0,0,[])) (br (decide (i>=a.length)) (κ (0,0,[])) (br (ixI a i) (br (ixT a i 3 [Sh.int .i64,Sh.int .i64,Sh.str] 0) (κ ((gC a i 0).toInt,(gC a i 1).toInt,(gC a i 2).toStr)) δ) δ))
def xqU (a:LA) (i:Int):=xt3 a i none some
def xyS:EO:=xDz.f Tryz.func175 18 0 [] [] lk0 (u2 (uL 3) uI) (fun (a,i,_) _=>xt3 a i) (fun _ p=>AV.agg [AV.int .i64 p.1,AV.int .i64 p.2.1,AV.str p.2.2]) (0,0,[])
def xjT (o:LA) (i:Int):=ixI o i
def xoe (a o:LA) (i:Int):=(xqU a (gC o i 0).toInt).getD (0,0,[])
def xof (b o:LA) (i:Int):=(xqU b (gC o i 0).toInt).getD (0,0,[])
def xoc (b o:LA) (i:Int):=(xof b o i).snd
def xod (a o:LA) (i:Int):=(xoe a o i).snd
def xob (a b o:LA) (i:Int):=xgB (xoe a o i).fst (xod a o i).fst (xod a o i).snd (xof b o i).fst (xoc b o i).fst (xoc b o i).snd
def xkG {T:Type} (a b o:LA) (i:Int) (δ:T) (κl:(Int)->T) (κr:(Bool×(Bool)×(Unit))->T):T:=br (decide (i<o.length)) (br (xjT o i) (br (ixS o i (Sh.int .i64) 0) (br ((xqU a (gC o i 0).toInt).isSome) (br (xjT o i) (br (ixS o i (Sh.int .i64) 0) (br ((xqU b (gC o i 0).toInt).isSome) (br (xob a b o i != 0) (br (xjT o i) (br (decide (i.toNat<o.length)&&xHa Sh.bool (gC o i 1)) (κr (true,(!decide (xob a b o i<0)==(gC o i 1).toBool),())) δ) δ) (κl (i64.wrap (i+1)))) δ) δ) δ) δ) δ) δ) (κr (false,false,()))
def xdd (a b o:LA):StT (Int) (Bool×(Bool)×(Unit)):=fun (i)=>xkG a b o i none inL inR
def xoa:=xyS.l 44 0 [] [] Tryz.f168 0 lk0 [0,1,2,7] [0,1,6] [] (q4 (qL 3) (qL 3) (qL 2) qI) xHX (fun (a,b,o,i,_) _=>(xdd a b o,(i),fun p=>(.node p.1 (.leaf .ret [AV.list 3 a,AV.list 3 b,AV.bool p.2.1] []) (.leaf (.exit 0) [AV.list 3 a,AV.list 3 b,.top] [])))) (false,false,()) fun (a,b,o,_,_) _ (i)=>(((a,b,o,i,()),()),xkG a b o i none)
def xnC {T:Type} (a b o:LA) (δ:T) (κ:Bool->T):T:=br ((Iter (xdd a b o) 0).isSome) (br (((Iter (xdd a b o) 0).getD (false,false,())).fst) (κ (((Iter (xdd a b o) 0).getD (false,false,())).snd.fst)) (br ((xa8 a b).isSome) (κ (decide ((xa8 a b).getD 0<0))) δ)) δ
def xmA (a b o:LA):=xnC a b o none some
def xyT:EO:=xyS.f Tryz.func168 44 0 [] [(2,xoa.lp)] (lk1 xoa.ok) (u3 (uL 3) (uL 3) (uL 2)) (fun (a,b,o,_) _=>xnC a b o) (fun _ p=>AV.bool p) false
def xcx (a:LA) (i:Int):=decide (i.toNat<a.length)&&xHa (Sh.list 3) (gC a i 0)
def xc0 (b:LA) (k:Int):=decide (k.toNat<b.length)&&xHa (Sh.list 3) (gC b k 0)
def xc1 (a:LA) (i:Int):=ixI a i
def xc2 (b:LA) (k:Int):=ixI b k
def xcw {T:Type} (b:LA) (c:Nat) (i k:Int) (a:LA) (δ:T) (κl:(Nat×Int×Int×LA)->T):T:=br (xc2 b k) (br (xc0 b k) (br (rmB c a 1 24) (κl (c+1,i,i64.wrap (k+1),a++[AV.list 3 (gC b k 0).toList])) δ) δ) δ
def xcy {T:Type} (a:LA) (c:Nat) (i k:Int) (b:LA) (δ:T) (κl:(Nat×Int×Int×LA)->T):T:=br (xc1 a i) (br (xcx a i) (br (rmB c b 1 24) (κl (c+1,i64.wrap (i+1),k,b++[AV.list 3 (gC a i 0).toList])) δ) δ) δ
def xcv {T:Type} (a b o:LA) (d:Nat) (i k:Int) (c:LA) (δ:T) (κl:(Nat×Int×Int×LA)->T):T:=br (i==(↑a.length:Int)) (xcw b d i k c δ κl) (br (decide (k<b.length)) (br (xc2 b k) (br (xc0 b k) (br (xc1 a i) (br (xcx a i) (br ((xmA (gC b k 0).toList (gC a i 0).toList o).isSome) (br ((xmA (gC b k 0).toList (gC a i 0).toList o).getD false) (xcw b d i k c δ κl) (xcy a d i k c δ κl)) δ) δ) δ) δ) δ) (xcy a d i k c δ κl))
def xdy {T:Type} (a b o:LA) (d:Nat) (i k:Int) (c:LA) (δ:T) (κl:(Nat×Int×Int×LA)->T) (κr:(Nat×LA)->T):T:=br (decide (i<a.length)) (xcv a b o d i k c δ κl) (br (decide (k<b.length)) (xcv a b o d i k c δ κl) (κr (d,c)))
def xbo (a b o:LA):StT (Nat×Int×Int×LA) (Nat×LA):=fun (d,i,k,c)=>xdy a b o d i k c none inL inR
def xog:=xyT.l 62 0 [] [] Tryz.f160 0 lk0 [0,1,2,7,8,9] [7] [(7,1,54)] (q6 (qL 1) (qL 1) (qL 2) (xH6 0 0 0) qI qI) (q1 (qB 0 1 54 xHZ)) (fun (a,b,o,d,i,k,_) (c,_)=>(xbo a b o,(d,i,k,c),fun p=>(.leaf (.exit 0) [AV.osl 0 0 0 p.1] [bF 0 1 54 p.2]))) (0,[]) fun (a,b,o,_,_,_,_) _ (d,i,k,c)=>(((a,b,o,d,i,k,()),(c,())),xdy a b o d i k c none)
def xmE (a b o:LA):=Iter (xbo a b o) (0,0,0,[])
def xmD (a b o:LA):=(xmE a b o).getD (0,[])
def xmB (a b o:LA):=(xmD a b o).fst
def xmC (a b o:LA):=(xmD a b o).snd
def xnD {T:Type} (a b o:LA) (δ:T) (κ:LA->T):T:=br ((xmE a b o).isSome) (br (decide (0+xmB a b o<=(xmC a b o).length)&&true) (κ (List.take (xmB a b o) (List.drop 0 (xmC a b o)))) δ) δ
def xpt (a b o:LA):=xnD a b o none some
def xsb:EO:=xyT.f Tryz.func160 62 0 [] [(3,xog.lp)] (lk1 xog.ok) (u3 (uL 1) (uL 1) (uL 2)) (fun (a,b,o,_) _=>xnD a b o) (fun _ p=>AV.list 1 p) []
def xlE (R:LA->LA->Option (LA)):LA->Option (Bool×AV):=ocOf (xHW (xIa 1 xHZ) (xHW (xIa 2 xHZ) xHY)) fun (l,(o,_))=>((R l o).isSome,AV.list 1 ((R l o).getD []))
def xf1 (R:LA->LA->Option (LA)):Env:=(xsb.E.with 141 (xlE R)).fn 34 0 (lsOf []) (xHz [])
def xkF (R:LA->LA->Option (LA)):Prop:=OcOk P0 xHU 141 (xlE R)
theorem xsl (R:LA->LA->Option (LA)) (a:xkF R):xHc P0 (xHU.at 0) (xf1 R):=(xsb.ok.with a).fn
theorem xqV (R:LA->LA->Option (LA)):LoOk P0 (xHU.at (xf1 R).pin) (xf1 R) (Tryz.f141.body.getD .skip):=xeO (by kernel_rfl)
def xh2 (l:LA):=decide (0<=i64.wrap ((↑l.length:Int).tdiv 2))&&decide (i64.wrap ((↑l.length:Int).tdiv 2)<=(↑l.length:Int))
def xeV (l:LA):Nat:=0+((l.getD 0 .top).cells.getD 0 .top).toList.length
def xh3 (R:LA->LA->Option (LA)) (l o:LA):Option (LA):=R (List.take (l.length - (i64.wrap ((↑l.length:Int).tdiv 2)).toNat) (List.drop (i64.wrap ((↑l.length:Int).tdiv 2)).toNat l)) o
def xh1 (R:LA->LA->Option (LA)) (l o:LA):Option (LA):=xpt ((R (List.take ((i64.wrap ((↑l.length:Int).tdiv 2)).toNat - 0) (List.drop 0 l)) o).getD []) ((xh3 R l o).getD []) o
def xey {T:Type} (R:LA->LA->Option (LA)) (l o:LA) (δ:T) (κ:LA->T):T:=br ((↑l.length:Int)==0) (κ ([])) (br ((↑l.length:Int)==1) (br (decide (0<(↑l.length:Int))) (br (decide (0<l.length)&&xHa (Sh.list 3) ((l.getD 0 .top).cells.getD 0 .top)) (br (decide (xeV l*32<=140737488355328)&&decide (xeV l<=4611686018427387904)) (br (decide (0+xeV l<=([]++((l.getD 0 .top).cells.getD 0 .top).toList).length)&&true&&true&&true) (κ ([AV.list 3 (List.take (xeV l) (List.drop 0 ([]++((l.getD 0 .top).cells.getD 0 .top).toList)))])) δ) δ) δ) δ) (br (xh2 l&&true) (br ((R (List.take ((i64.wrap ((↑l.length:Int).tdiv 2)).toNat - 0) (List.drop 0 l)) o).isSome) (br (xh2 l) (br ((xh3 R l o).isSome) (br ((xh1 R l o).isSome) (κ ((xh1 R l o).getD [])) δ) δ) δ) δ) δ))
def xb4 (R:LA->LA->Option (LA)) (l o:LA):=xey R l o none some
theorem xvF (R:LA->LA->Option (LA)) (l o:LA):Enc (fun (p:LA)=>((AV.list 1 p):AV)) (xb4 R l o) (XF P0 (xf1 R) Tryz.f141 (Tryz.f141.body.getD .skip) [AV.list 1 l,AV.list 2 o]):=by
 have h:XF P0 (xf1 R) Tryz.f141 (Tryz.f141.body.getD .skip) [AV.list 1 l,AV.list 2 o]=xey R l o none (fun (p:LA)=>some ((AV.list 1 p):AV)):=by kernel_rfl
 rw [h];unfold xb4 xey;repeat' (first|refine Enc.br ?_ ?_|exact Enc.none|exact Enc.some rfl)
def xvE (R:LA->LA->Option (LA)):LA->Option (Bool×AV):=ocOf (xHW (xIa 1 xHZ) (xHW (xIa 2 xHZ) xHY)) fun (l,(o,_))=>((xb4 R l o).isSome,(AV.list 1 ((xb4 R l o).getD [])))
theorem xvD (R:LA->LA->Option (LA)) (c:xkF R):OcOk P0 xHU 141 (xvE R):=xlT fun e g f=>by
 obtain ⟨l,⟨o,_⟩⟩:=e;obtain ⟨a,b⟩:=Prod.mk.inj f;refine xiC (p:=(xf1 R).pin) (xlR xHl (xHm P0 _) rfl (xsl R c) Tryz.func141 rfl (by kernel_rfl) (xqV R) ((xvF R _ _ _ (xcr (d:=[]) a)).trans ?_))
 exact congrArg some b
def xbZ:Nat->LA->LA->Option (LA)
 | 0=>fun _ _=>none
 | fu_+1=>fun l o=>xb4 (xbZ fu_) l o
theorem xpr:∀ n,xkF (xbZ n)
 | 0=>xlT fun _ _ h=>absurd (Prod.mk.inj h).1 Bool.false_ne_true
 | fu_+1=>fun a r h=>xvD (xbZ fu_) (xpr fu_) a r h
def xyU:Env:=xsb.E.with 141 (xlE (xbZ 1000))
theorem xzJ:xHc P0 xHU xyU:=xsb.ok.with (xpr _)
def xzI:EO:=EO.mk xyU xzJ
def xps {T:Type} (l:LA) (δ:T) (κ:LA->T):T:=br ((xbZ 1000 l []).isSome) (κ ((xbZ 1000 l []).getD [])) δ
def xmz (l:LA):=xps l none some
def xyV:EO:=xzI.f Tryz.func119 5 0 [] [] lk0 (u1 (uL 1)) (fun (l,_) _=>xps l) (fun _ p=>AV.list 1 p) []
def xfK (a:LA) (i:Int):=decide (i.toNat<a.length)&&xHa (Sh.list 3) (gC a i 0)
def xfL (a:LA) (i:Int):=ixI a i
def xfM (a:LA) (i:Int):=xp8 ((a.getD (i64.wrap (i - 1)).toNat .top).cells.getD 0 .top).toList (gC a i 0).toList
def xd8 {T:Type} (c:LA) (b:Nat) (i:Int) (a:LA) (δ:T) (κl:(Nat×Int×LA)->T):T:=br (xfL c i) (br (xfK c i) (br (rmB b a 1 24) (κl (b+1,i64.wrap (i+1),a++[AV.list 3 (gC c i 0).toList])) δ) δ) δ
def xeG {T:Type} (a:LA) (c:Nat) (i:Int) (b:LA) (δ:T) (κl:(Nat×Int×LA)->T) (κr:(Nat×LA)->T):T:=br (decide (i<a.length)) (br (i==0) (xd8 a c i b δ κl) (br (decide (0<=i64.wrap (i - 1))&&decide (i64.wrap (i - 1)<(↑a.length:Int))) (br (decide ((i64.wrap (i - 1)).toNat<a.length)&&xHa (Sh.list 3) ((a.getD (i64.wrap (i - 1)).toNat .top).cells.getD 0 .top)) (br (xfL a i) (br (xfK a i) (br ((xfM a i).isSome) (br (!(xfM a i).getD false) (xd8 a c i b δ κl) (κl (c,i64.wrap (i+1),b))) δ) δ) δ) δ) δ)) (κr (c,b))
def xbQ (c:LA):StT (Nat×Int×LA) (Nat×LA):=fun (b,i,a)=>xeG c b i a none inL inR
def xmy:=xyV.l 38 0 [] [] Tryz.f98 0 lk0 [3,4,5] [4] [(4,1,54)] (q3 (qL 1) (xH6 0 0 0) qI) (q1 (qB 0 1 54 xHZ)) (fun (c,b,i,_) (a,_)=>(xbQ c,(b,i,a),fun p=>(.leaf (.exit 0) [AV.osl 0 0 0 p.1] [bF 0 1 54 p.2]))) (0,[]) fun (c,_,_,_) _ (b,i,a)=>(((c,b,i,()),(a,())),xeG c b i a none)
def xkE (l:LA):=(Iter (xbQ ((xmz l).getD [])) (0,0,[])).getD (0,[])
def xkC (l:LA):=(xkE l).fst
def xkD (l:LA):=(xkE l).snd
def xlD {T:Type} (l:LA) (δ:T) (κ:LA->T):T:=br ((xmz l).isSome) (br ((Iter (xbQ ((xmz l).getD [])) (0,0,[])).isSome) (br (decide (0+xkC l<=(xkD l).length)&&true) (κ (List.take (xkC l) (List.drop 0 (xkD l)))) δ) δ) δ
def xnB (l:LA):=xlD l none some
def xyW:EO:=xyV.f Tryz.func98 38 0 [] [(4,xmy.lp)] (lk1 xmy.ok) (u1 (uL 1)) (fun (l,_) _=>xlD l) (fun _ p=>AV.list 1 p) []
def xjs {T:Type} (l:LA) (b:Nat) (i:Int) (a:LA) (δ:T) (κl:(Nat×Int×LA)->T) (κr:(Nat×LA)->T):T:=br (decide (i<l.length)) (br (ixI l i) (br (ixT l i 3 [Sh.int .i64,Sh.int .i64] 1) (br (xe0 (gC l i 1).toInt (gC l i 2).toInt) (br (ixI l i) (br (ixS l i (Sh.list 3) 0) (br (rmB b a 1 24) (κl (b+1,i64.wrap (i+1),a++[AV.list 3 (gC l i 0).toList])) δ) δ) δ) (κl (b,i64.wrap (i+1),a))) δ) δ) (κr (b,a))
def xd9 (l:LA):StT (Nat×Int×LA) (Nat×LA):=fun (b,i,a)=>xjs l b i a none inL inR
def xpy:=xyW.l 27 0 [] [] Tryz.f83 0 lk0 [0,3,4] [3] [(3,1,54)] (q3 (qL 3) (xH6 0 0 0) qI) (q1 (qB 0 1 54 xHZ)) (fun (l,b,i,_) (a,_)=>(xd9 l,(b,i,a),fun p=>(.leaf (.exit 0) [AV.osl 0 0 0 p.1] [bF 0 1 54 p.2]))) (0,[]) fun (l,_,_,_) _ (b,i,a)=>(((l,b,i,()),(a,())),xjs l b i a none)
def xoH (l:LA):=(Iter (xd9 l) (0,0,[])).getD (0,[])
def xoF (l:LA):=(xoH l).snd
def xoG (l:LA):=(xoH l).fst
def xoE (l:LA):=xnB (List.take (xoG l) (List.drop 0 (xoF l)))
def xpz {T:Type} (l:LA) (δ:T) (κ:LA->T):T:=br ((Iter (xd9 l) (0,0,[])).isSome) (br (decide (0+xoG l<=(xoF l).length)&&true) (br ((xoE l).isSome) (κ ((xoE l).getD [])) δ) δ) δ
def xo2 (l:LA):=xpz l none some
def xul:EO:=xyW.f Tryz.func83 27 0 [] [(3,xpy.lp)] (lk1 xpy.ok) (u1 (uL 3)) (fun (l,_) _=>xpz l) (fun _ p=>AV.list 1 p) []
def xgz:Env:=xul.E.fn 51 1 (lsOf []) (xHz [])
theorem xtb:xHc P0 (xHU.at 1) xgz:=xul.ok.fn
theorem xro:LoOk P0 (xHU.at xgz.pin) xgz (Tryz.f100.body.getD .skip):=xeO (by kernel_rfl)
def xdV (k:Nat) (a:LA):=(List.take ((i64.wrap ((↑k:Int) - 1)).toNat - 0) (List.drop 0 a)).length
def xk7 (k:Nat) (a:LA):=decide (0+(i64.wrap ((↑k:Int) - 1)).toNat<a.length)
def xiR (k:Nat) (a:LA):=((a.getD (0+(i64.wrap ((↑k:Int) - 1)).toNat) .top).cells.getD 1 .top).toInt
def xk8 (k:Nat):=decide (0<=i64.wrap ((↑k:Int) - 1))
def xiQ (k:Nat):=xk8 k&&decide (i64.wrap ((↑k:Int) - 1)<(↑k:Int))
def xk6 (k:Nat) (a:LA):=xk7 k a&&xHa (Sh.int .i64) ((a.getD (0+(i64.wrap ((↑k:Int) - 1)).toNat) .top).cells.getD 1 .top)
def xhP {T:Type} (k:Nat) (a b:Int) (c:LA) (δ:T) (κ:Bool×(Nat×LA×LA)×(Nat×LA)->T):T:=br (rmB k c 1 16) (κ (false,(0,[],[]),(k+1,c++[AV.agg [AV.int .i64 a,AV.int .i64 b]]))) δ
def xjS {T:Type} (k:Nat) (b c:Int) (a:LA) (δ:T) (κ:Bool×(Nat×LA×LA)×(Nat×LA)->T):T:=br (decide ((↑k:Int)>0)) (br (xiQ k) (br (xk6 k a) (br (decide (xiR k a>=b)) (br (xk8 k&&decide (i64.wrap ((↑k:Int) - 1)<=(↑k:Int))&&true) (br (decide (0+((i64.wrap ((↑k:Int) - 1)).toNat - 0)<=a.length)&&(decide (xdV k a*16<=140737488355328)&&decide (xdV k a<=4611686018427387904))) (br (xiQ k) (br (xk7 k a&&xHa (Sh.int .i64) ((a.getD (0+(i64.wrap ((↑k:Int) - 1)).toNat) .top).cells.getD 0 .top)) (br (xiQ k) (br (xk6 k a) (br (xdV k a==xdV k a&&(decide ((xdV k a+1)*16<=140737488355328)&&decide (xdV k a+1<=4611686018427387904))) (κ (true,(xdV k a+1,a,List.take ((i64.wrap ((↑k:Int) - 1)).toNat - 0) (List.drop 0 a)++[AV.agg [AV.int .i64 ((a.getD (0+(i64.wrap ((↑k:Int) - 1)).toNat) .top).cells.getD 0 .top).toInt,AV.int .i64 (if c>xiR k a then c else xiR k a)]]),(0,[]))) δ) δ) δ) δ) δ) δ) δ) (xhP k b c a δ κ)) δ) δ) (xhP k b c a δ κ)
def xbY (k:Nat) (a b:Int) (c:LA):=xjS k a b c none some
theorem xwL (k:Nat) (a b:Int) (xs:LA):Enc (fun (p:Bool×(Nat×LA×LA)×(Nat×LA))=>((br p.1 ((AV.osl 1 0 0 p.2.1.1,([⟨0,2,56,p.2.1.2.1,false,true⟩,⟨0,2,56,p.2.1.2.2,false,true⟩]:List Box))) ((AV.osl 0 1 0 p.2.2.1,([⟨1,2,56,p.2.2.2,false,true⟩]:List Box)))):(AV×List Box))) (xbY k a b xs) (XFM P0 xgz Tryz.f100 (Tryz.f100.body.getD .skip) [AV.osl (0:Id) 0 0 k,AV.agg [AV.int .i64 a,AV.int .i64 b]] [{ ver:=0,sz:=2,ty:=(56:TypeId),xs:=xs,frz:=false,pm:=true }]):=by
 have h:XFM P0 xgz Tryz.f100 (Tryz.f100.body.getD .skip) [AV.osl (0:Id) 0 0 k,AV.agg [AV.int .i64 a,AV.int .i64 b]] [{ ver:=0,sz:=2,ty:=(56:TypeId),xs:=xs,frz:=false,pm:=true }]=xjS k a b xs none (fun (p:Bool×(Nat×LA×LA)×(Nat×LA))=>some ((br p.1 ((AV.osl 1 0 0 p.2.1.1,([⟨0,2,56,p.2.1.2.1,false,true⟩,⟨0,2,56,p.2.1.2.2,false,true⟩]:List Box))) ((AV.osl 0 1 0 p.2.2.1,([⟨1,2,56,p.2.2.2,false,true⟩]:List Box)))):(AV×List Box))):=by kernel_rfl
 rw [h];unfold xbY xjS xhP;repeat' (first|refine Enc.br ?_ ?_|exact Enc.none|exact Enc.some rfl)
def xwK:LA->List Box->Option (Bool×AV×List Box):=omOf (xHW (sEq (xH6 0 0 0)) (xHW (xIb (xHW (sEq (pInt .i64)) (xHW (sEq (pInt .i64)) xHY))) xHY)) (xHV (xH9 0 2 (56:TypeId) false true xHZ) xHX) fun (k,((a,(b,_)),_)) (c,_)=>((xbY k a b c).isSome,(AV.osl 1 0 0 (br ((xbY k a b c).getD (false,(0,[],[]),(0,[]))).1 ((xbY k a b c).getD (false,(0,[],[]),(0,[]))).2.1.1 ((xbY k a b c).getD (false,(0,[],[]),(0,[]))).2.2.1),
 ([⟨2,2,56,[],false,true⟩,⟨0,2,56,br ((xbY k a b c).getD (false,(0,[],[]),(0,[]))).1 ((xbY k a b c).getD (false,(0,[],[]),(0,[]))).2.1.2.2 ((xbY k a b c).getD (false,(0,[],[]),(0,[]))).2.2.2,false,true⟩]:List Box)))
theorem xwJ:OmOk P0 xHU 100 (xwK):=xlU fun e f j h g=>by
 obtain ⟨k,⟨⟨c,⟨i,_⟩⟩,_⟩⟩:=e;obtain ⟨l,_⟩:=f;obtain ⟨b,a⟩:=Prod.mk.inj g;have hx:=xwL _ _ _ _ _ (xcr (d:=(false,(0,[],[]),(0,[]))) b);revert hx a;generalize ((xbY _ _ _ _).getD (false,(0,[],[]),(0,[])))=p;intro a hx;obtain ⟨rfl,rfl⟩:=Prod.mk.inj a;obtain ⟨t,⟨m,n,o⟩,q,r⟩:=p;have hg:GoodM P0 xHU 100 _ _ _ _:=xgH (p:=xgz.pin) (xis xHl (xHm P0 _) rfl xtb rfl Tryz.func100 rfl (by kernel_rfl) xro hx)
 cases t
 . exact GoodM.move0 rfl (by decide) hg
 . exact GoodM.drop0 rfl (by decide) hg
def xzH:EO:=xul.wM xwJ
def xfz {T:Type} (l:LA) (n:Int) (b:Nat) (i:Int) (a:LA) (δ:T) (κl:(Nat×Int×LA)->T) (κr:(Nat×Int×LA)->T):T:=br (decide (i<l.length)) (br (ixI l i) (br (ixS l i (Sh.int .i64) 0) (br (decide ((gC l i 0).toInt<n)) (br (ixI l i) (br (ixS l i (Sh.int .i64) 0) (br (rmB b a 1 8) (κl (b+1,i64.wrap (i+1),a++[AV.int .i64 (gC l i 0).toInt])) δ) δ) δ) (κr (b,i,a))) δ) δ) (κr (b,i,a))
def xce (l:LA) (n:Int):StT (Nat×Int×LA) (Nat×Int×LA):=fun (b,i,a)=>xfz l n b i a none inL inR
def xjR:=xzH.l 58 0 [] [] Tryz.f54 0 lk0 [0,1,5,6] [0,1,5,6] [(5,1,3)] (q4 (qL 1) qI (xH6 0 0 0) qI) (q1 (qB 0 1 3 xHZ)) (fun (l,n,b,i,_) (a,_)=>(xce l n,(b,i,a),fun p=>(.leaf (.exit 0) [AV.list 1 l,AV.int .i64 n,AV.osl 0 0 0 p.1,AV.int .i64 p.2.1] [bF 0 1 3 p.2.2]))) (0,0,[]) fun (l,n,_,_,_) _ (b,i,a)=>(((l,n,b,i,()),(a,())),xfz l n b i a none)
def xhD {T:Type} (l:LA) (b:Nat) (i:Int) (a:LA) (δ:T) (κl:(Nat×Int×LA)->T) (κr:(Nat×LA)->T):T:=br (decide (i<l.length)) (br (ixI l i) (br (ixS l i (Sh.int .i64) 0) (br (rmB b a 1 8) (κl (b+1,i64.wrap (i+1),a++[AV.int .i64 (gC l i 0).toInt])) δ) δ) δ) (κr (b,a))
def xcf (l:LA):StT (Nat×Int×LA) (Nat×LA):=fun (b,i,a)=>xhD l b i a none inL inR
def xn8:=xzH.l 58 0 [] [(3,xjR.lp)] Tryz.f54 1 lk0 [0,5,6] [5] [(5,1,3)] (q3 (qL 1) (xH6 0 0 0) qI) (q1 (qB 0 1 3 xHZ)) (fun (l,b,i,_) (a,_)=>(xcf l,(b,i,a),fun p=>(.leaf (.exit 2) [AV.osl 0 0 0 p.1] [bF 0 1 3 p.2]))) (0,[]) fun (l,_,_,_) _ (b,i,a)=>(((l,b,i,()),(a,())),xhD l b i a none)
def xf8 (l:LA) (n:Int):=(Iter (xce l n) (0,0,[])).getD (0,0,[])
def xeR (l:LA) (n:Int):=(xf8 l n).fst
def xf7 (l:LA) (n:Int):=(xf8 l n).snd
def xbI (l:LA) (n:Int):=(xf7 l n).fst
def xeP (l:LA) (n:Int):=xeR l n+1
def xeQ (l:LA) (n:Int):=(xf7 l n).snd
def xgP (l:LA) (n:Int):=Iter (xcf l) (xeP l n,xbI l n,xeQ l n++[AV.int .i64 n])
def xgT (l:LA) (n:Int):=Iter (xcf l) (xeR l n,xbI l n,xeQ l n)
def xiI (l:LA) (n:Int):=xeR l n==(xeQ l n).length
def xgO (l:LA) (n:Int):=(xgP l n).getD (0,[])
def xjp (l:LA) (n:Int):=(xgP l n).isSome
def xgS (l:LA) (n:Int):=(xgT l n).getD (0,[])
def xgM (l:LA) (n:Int):=(xgO l n).snd
def xgN (l:LA) (n:Int):=(xgO l n).fst
def xgQ (l:LA) (n:Int):=(xgS l n).fst
def xgR (l:LA) (n:Int):=(xgS l n).snd
def xlz {T:Type} (l:LA) (n:Int) (δ:T) (κ:LA->T):T:=br (xiI l n&&(decide (xeP l n*8<=140737488355328)&&decide (xeP l n<=4611686018427387904))) (br (xjp l n) (br (decide (0+xgN l n<=(xgM l n).length)&&true) (κ (List.take (xgN l n) (List.drop 0 (xgM l n)))) δ) δ) δ
def xnr {T:Type} (l:LA) (n:Int) (δ:T) (κ:LA->T):T:=br ((Iter (xce l n) (0,0,[])).isSome) (br (xbI l n==(↑l.length:Int)) (xlz l n δ κ) (br (decide (0<=xbI l n)&&decide (xbI l n<l.length)) (br (decide ((xbI l n).toNat<l.length)&&xHa (Sh.int .i64) ((l.getD (xbI l n).toNat .top).cells.getD 0 .top)) (br (decide (((l.getD (xbI l n).toNat .top).cells.getD 0 .top).toInt>n)) (xlz l n δ κ) (br ((xgT l n).isSome) (br (decide (0+xgQ l n<=(xgR l n).length)&&true) (κ (List.take (xgQ l n) (List.drop 0 (xgR l n)))) δ) δ)) δ) δ)) δ
def xem (l:LA) (n:Int):=xnr l n none some
def xvO:EO:=xzH.f Tryz.func54 58 0 [] [(3,xjR.lp),(8,xn8.lp)] (lks (lkC xjR.ok (lkC xn8.ok lkN))) (u2 (uL 1) uI) (fun (l,n,_) _=>xnr l n) (fun _ p=>AV.list 1 p) []
def xh0:Env:=xvO.E.fn 28 1 (lsOf []) (xHz [])
theorem xt1:xHc P0 (xHU.at 1) xh0:=xvO.ok.fn
theorem xrW:LoOk P0 (xHU.at xh0.pin) xh0 (Tryz.f122.body.getD .skip):=xeO (by kernel_rfl)
def xgA {T:Type} (k:Nat) (a n:Int) (b:LA) (δ:T) (κ:Bool×(Nat×LA)×(Nat×LA)->T):T:=br (rmB k b 1 16) (κ (false,(0,[]),(k+1,b++[AV.agg [AV.int .i64 a,AV.int .i64 n]]))) δ
def xiX {T:Type} (k:Nat) (a n:Int) (b:LA) (δ:T) (κ:Bool×(Nat×LA)×(Nat×LA)->T):T:=br (decide ((↑k:Int)>0)) (br (decide (0<=i64.wrap ((↑k:Int) - 1))&&decide (i64.wrap ((↑k:Int) - 1)<(↑k:Int))) (br (decide (0+(i64.wrap ((↑k:Int) - 1)).toNat<b.length)&&xHa (Sh.int .i64) ((b.getD (0+(i64.wrap ((↑k:Int) - 1)).toNat) .top).cells.getD 1 .top)) (br (((b.getD (0+(i64.wrap ((↑k:Int) - 1)).toNat) .top).cells.getD 1 .top).toInt==n) (κ (true,(k,b),(0,[]))) (xgA k a n b δ κ)) δ) δ) (xgA k a n b δ κ)
def xcZ (k:Nat) (a n:Int) (b:LA):=xiX k a n b none some
theorem xyA (k:Nat) (a n:Int) (xs:LA):Enc (fun (p:Bool×(Nat×LA)×(Nat×LA))=>((br p.1 ((AV.osl 0 0 0 p.2.1.1,([⟨0,2,131,p.2.1.2,false,true⟩]:List Box))) ((AV.osl 0 1 0 p.2.2.1,([⟨1,2,131,p.2.2.2,false,true⟩]:List Box)))):(AV×List Box))) (xcZ k a n xs) (XFM P0 xh0 Tryz.f122 (Tryz.f122.body.getD .skip) [AV.osl (0:Id) 0 0 k,AV.int .i64 a,AV.int .i64 n] [{ ver:=0,sz:=2,ty:=(131:TypeId),xs:=xs,frz:=false,pm:=true }]):=by
 have h:XFM P0 xh0 Tryz.f122 (Tryz.f122.body.getD .skip) [AV.osl (0:Id) 0 0 k,AV.int .i64 a,AV.int .i64 n] [{ ver:=0,sz:=2,ty:=(131:TypeId),xs:=xs,frz:=false,pm:=true }]=xiX k a n xs none (fun (p:Bool×(Nat×LA)×(Nat×LA))=>some ((br p.1 ((AV.osl 0 0 0 p.2.1.1,([⟨0,2,131,p.2.1.2,false,true⟩]:List Box))) ((AV.osl 0 1 0 p.2.2.1,([⟨1,2,131,p.2.2.2,false,true⟩]:List Box)))):(AV×List Box))):=by kernel_rfl
 rw [h];unfold xcZ xiX xgA;repeat' (first|refine Enc.br ?_ ?_|exact Enc.none|exact Enc.some rfl)
def xyz:LA->List Box->Option (Bool×AV×List Box):=omOf (xHW (sEq (xH6 0 0 0)) (xHW (sEq (pInt .i64)) (xHW (sEq (pInt .i64)) xHY))) (xHV (xH9 0 2 (131:TypeId) false true xHZ) xHX) fun (k,(a,(n,_))) (b,_)=>((xcZ k a n b).isSome,(AV.osl 0 1 0 (br ((xcZ k a n b).getD (false,(0,[]),(0,[]))).1 ((xcZ k a n b).getD (false,(0,[]),(0,[]))).2.1.1 ((xcZ k a n b).getD (false,(0,[]),(0,[]))).2.2.1),([⟨1,2,131,(br ((xcZ k a n b).getD (false,(0,[]),(0,[]))).1 ((xcZ k a n b).getD (false,(0,[]),(0,[]))).2.1.2 ((xcZ k a n b).getD (false,(0,[]),(0,[]))).2.2.2),false,true⟩]:List Box)))
theorem xyy:OmOk P0 xHU 122 (xyz):=xlU fun e f j i g=>by
 obtain ⟨k,⟨b,⟨n,_⟩⟩⟩:=e;obtain ⟨h,_⟩:=f;obtain ⟨c,a⟩:=Prod.mk.inj g;have hx:=xyA _ _ _ _ _ (xcr (d:=(false,(0,[]),(0,[]))) c);revert hx a;generalize ((xcZ k b n h).getD (false,(0,[]),(0,[])))=p;intro a hx;obtain ⟨rfl,rfl⟩:=Prod.mk.inj a;obtain ⟨t,⟨l,m⟩,o,q⟩:=p;have hg:GoodM P0 xHU 122 _ _ _ _:=xgH (p:=xh0.pin) (xis xHl (xHm P0 _) rfl xt1 rfl Tryz.func122 rfl (by kernel_rfl) xrW hx)
 cases t
 . exact hg
 . exact GoodM.bump1 rfl (by decide) hg
def xto:EO:=xvO.wM xyy
def xhQ (l:LA) (i:Int):=ixI l i
def xk9 {T:Type} (l a:LA) (i:Int) (δ:T) (κl:(LA×Int)->T) (κr:(LA)->T):T:=br (decide (i<l.length)) (br (xhQ l i) (br (ixT l i 3 [Sh.int .i64,Sh.int .i64] 0) (br (xe0 (gC l i 0).toInt (gC l i 1).toInt) (br (xhQ l i) (br (ixS l i (Sh.int .i64) 0) (br ((xem a (gC l i 0).toInt).isSome) (br (xhQ l i) (br (ixS l i (Sh.int .i64) 1) (br ((xem ((xem a (gC l i 0).toInt).getD []) (gC l i 1).toInt).isSome) (κl ((xem ((xem a (gC l i 0).toInt).getD []) (gC l i 1).toInt).getD [],i64.wrap (i+1))) δ) δ) δ) δ) δ) δ) (κl (a,i64.wrap (i+1)))) δ) δ) (κr (a))
def xeS (l:LA):StT (LA×Int) (LA):=fun (a,i)=>xk9 l a i none inL inR
def xkp:=xto.l 82 0 [] [] Tryz.f99 0 lk0 [0,3,4] [0,3] [(3,1,1073741824)] (q3 (qL 3) (qL 1) qI) xHX (fun (l,a,i,_) _=>(xeS l,(a,i),fun p=>(.leaf (.exit 0) [AV.list 3 l,AV.list 1 p] []))) [] fun (l,_,_,_) _ (a,i)=>(((l,a,i,()),()),xk9 l a i none)
def xla {T:Type} (l b:LA) (c:Nat) (k n i:Int) (a:LA) (δ:T) (κl:(Int×Int×LA)->T) (κr:(Int×LA)->T):T:=br (decide (i<l.length)) (br (ixI l i) (br (ixT l i 3 [Sh.int .i64,Sh.int .i64] 0) (br (ixI b k) (br (ixS b k (Sh.int .i64) 0) (br (xko (gC l i 0).toInt (gC l i 1).toInt (gC b k 0).toInt) (br (ixI l i) (br (ixS l i (Sh.int .i64) 2) (κl (i64.wrap (n+(gC l i 2).toInt),i64.wrap (i+1),a)) δ) δ) (κl (n,i64.wrap (i+1),a))) δ) δ) δ) δ) (κr (n,a))
def xeU (l c:LA) (b:Nat) (k:Int):StT (Int×Int×LA) (Int×LA):=fun (n,i,a)=>xla l c b k n i a none inL inR
def xkq:=xto.l 82 0 [] [(3,xkp.lp)] Tryz.f99 2 lk0 [0,3,5,6,7,8] [0,3,5,6,7] [(5,2,131),(3,1,1073741824)] (q6 (qL 3) (qL 1) (xH6 0 0 0) qI qI qI) (q1 (qB 0 2 131 xHZ)) (fun (l,c,a,k,n,i,_) (b,_)=>(xeU l c a k,(n,i,b),fun p=>(.leaf (.exit 4) [AV.list 3 l,AV.list 1 c,AV.osl 0 0 0 a,AV.int .i64 k,AV.int .i64 p.1] [bF 0 2 131 p.2]))) (0,[]) fun (l,c,a,k,_,_,_) _ (n,i,b)=>(((l,c,a,k,n,i,()),(b,())),xla l c a k n i b none)
def xhX (l c:LA) (b:Nat) (k:Int) (a:LA):=(Iter (xeU l c b k) (0,0,a)).getD (0,[])
def xhW (l c:LA) (a:Nat) (k:Int) (b:LA):=xcZ a (gC c k 0).toInt (xhX l c a k b).fst (xhX l c a k b).snd
def xhV (l c:LA) (b:Nat) (k:Int) (a:LA):=(xhW l c b k a).getD (false,(0,[]),0,[])
def xhT (l c:LA) (b:Nat) (k:Int) (a:LA):=(xhV l c b k a).snd
def xhU (l c:LA) (b:Nat) (k:Int) (a:LA):=(xhV l c b k a).fst
def xhR (l c:LA) (b:Nat) (k:Int) (a:LA):=(xhT l c b k a).snd
def xhS (l c:LA) (b:Nat) (k:Int) (a:LA):=(xhT l c b k a).fst
def xiS {T:Type} (l c:LA) (b:Nat) (k:Int) (a:LA) (δ:T) (κl:(Nat×Int×LA)->T) (κr:(Nat×LA)->T):T:=br (decide (k<c.length)) (br (ixI c k) (br (ixS c k (Sh.int .i64) 0) (br (decide ((gC c k 0).toInt<1099511627776)) (br ((Iter (xeU l c b k) (0,0,a)).isSome) (br (ixI c k) (br (ixS c k (Sh.int .i64) 0) (br ((xhW l c b k a).isSome) (κl (br (xhU l c b k a) (xhS l c b k a).fst (xhR l c b k a).fst,i64.wrap (k+1),br (xhU l c b k a) (xhS l c b k a).snd (xhR l c b k a).snd)) δ) δ) δ) δ) (κr (b,a))) δ) δ) (κr (b,a))
def xeT (l c:LA):StT (Nat×Int×LA) (Nat×LA):=fun (b,k,a)=>xiS l c b k a none inL inR
def xqy:=xto.l 82 0 [] [(3,xkp.lp),(14,xkq.lp)] Tryz.f99 1 (lk1 xkq.ok) [0,3,5,6] [5] [(5,2,131),(3,1,1073741824)] (q4 (qL 3) (qL 1) (xH6 0 0 0) qI) (q1 (qB 0 2 131 xHZ)) (fun (l,c,b,k,_) (a,_)=>(xeT l c,(b,k,a),fun p=>(.leaf (.exit 2) [AV.osl 0 0 0 p.1] [bF 0 2 131 p.2]))) (0,[]) fun (l,c,_,_,_) _ (b,k,a)=>(((l,c,b,k,()),(a,())),xiS l c b k a none)
def xp7 (l:LA):=Iter (xeT l ((Iter (xeS l) ([AV.int .i64 0],0)).getD [])) (0,0,[])
def xp6 (l:LA):=(xp7 l).getD (0,[])
def xp4 (l:LA):=(xp6 l).fst
def xp5 (l:LA):=(xp6 l).snd
def xqT {T:Type} (l:LA) (δ:T) (κ:LA->T):T:=br ((Iter (xeS l) ([AV.int .i64 0],0)).isSome) (br ((xp7 l).isSome) (br (decide (0+xp4 l<=(xp5 l).length)&&true) (κ (List.take (xp4 l) (List.drop 0 (xp5 l)))) δ) δ) δ
def xtc (l:LA):=xqT l none some
def xAV:EO:=xto.f Tryz.func99 82 0 [] [(3,xkp.lp),(14,xkq.lp),(10,xqy.lp)] (lks (lkC xkp.ok (lkC xqy.ok (lkC xkq.ok lkN)))) (u1 (uL 3)) (fun (l,_) _=>xqT l) (fun _ p=>AV.list 2 p) []
def xhH {T:Type} (l c:LA) (b:Nat) (i:Int) (a:LA) (δ:T) (κl:(Nat×Int×LA)->T) (κr:(Nat×LA)->T):T:=br (decide (i<l.length)) (br (ixI l i) (br (ixS l i (Sh.list 3) 0) (br ((xa8 (gC l i 0).toList c).isSome) (br ((xa8 (gC l i 0).toList c).getD 0==0) (br (ixI l i) (br (ixT l i 3 [Sh.int .i64,Sh.int .i64] 1) (br (rmB b a 1 24) (κl (b+1,i64.wrap (i+1),a++[AV.agg [AV.int .i64 (gC l i 1).toInt,AV.int .i64 (gC l i 2).toInt,AV.int .i64 1]])) δ) δ) δ) (κl (b,i64.wrap (i+1),a))) δ) δ) δ) (κr (b,a))
def xde (l b:LA):StT (Nat×Int×LA) (Nat×LA):=fun (c,i,a)=>xhH l b c i a none inL inR
def xoh:=xAV.l 32 0 [] [] Tryz.f84 0 lk0 [0,1,5,6] [5] [(5,3,136)] (q4 (qL 3) (qL 3) (xH6 0 0 0) qI) (q1 (qB 0 3 136 xHZ)) (fun (l,b,c,i,_) (a,_)=>(xde l b,(c,i,a),fun p=>(.leaf (.exit 0) [AV.osl 0 0 0 p.1] [bF 0 3 136 p.2]))) (0,[]) fun (l,b,_,_,_) _ (c,i,a)=>(((l,b,c,i,()),(a,())),xhH l b c i a none)
def xmJ (l a:LA):=(Iter (xde l a) (0,0,[])).getD (0,[])
def xmH (l a:LA):=(xmJ l a).snd
def xmI (l a:LA):=(xmJ l a).fst
def xmG (l a:LA):=xtc (List.take (xmI l a) (List.drop 0 (xmH l a)))
def xnE {T:Type} (l a:LA) (δ:T) (κ:LA->T):T:=br ((Iter (xde l a) (0,0,[])).isSome) (br (decide (0+xmI l a<=(xmH l a).length)&&true) (br ((xmG l a).isSome) (κ ((xmG l a).getD [])) δ) δ) δ
def xmF (l a:LA):=xnE l a none some
def xtp:EO:=xAV.f Tryz.func84 32 0 [] [(3,xoh.lp)] (lk1 xoh.ok) (u2 (uL 3) (uL 3)) (fun (l,a,_) _=>xnE l a) (fun _ p=>AV.list 2 p) []
def xfA {T:Type} (a:LA) (c:Nat) (i k:Int) (b:LA) (δ:T) (κl:(Int×LA)->T) (κr:(Int×LA)->T):T:=br (decide (k<a.length)) (br (ixI a k) (br (ixS a k (Sh.list 3) 0) (br (ixI a i) (br (ixS a i (Sh.list 3) 0) (br ((xa8 (gC a k 0).toList (gC a i 0).toList).isSome) (br ((xa8 (gC a k 0).toList (gC a i 0).toList).getD 0==0) (κl (i64.wrap (k+1),b)) (κr (k,b))) δ) δ) δ) δ) δ) (κr (k,b))
def xbK (c:LA) (b:Nat) (i:Int):StT (Int×LA) (Int×LA):=fun (k,a)=>xfA c b i k a none inL inR
def xe6:=xtp.l 66 0 [] [] Tryz.f62 1 lk0 [3,4,5,6] [3,4,5,6] [(4,2,96)] (q4 (qL 3) (xH6 0 0 0) qI qI) (q1 (qB 0 2 96 xHZ)) (fun (c,a,i,k,_) (b,_)=>(xbK c a i,(k,b),fun p=>(.leaf (.exit 2) [AV.list 3 c,AV.osl 0 0 0 a,AV.int .i64 i,AV.int .i64 p.1] [bF 0 2 96 p.2]))) (0,[]) fun (c,a,i,_,_) _ (k,b)=>(((c,a,i,k,()),(b,())),xfA c a i k b none)
def xfB {T:Type} (d:LA) (i k:Int) (a:LA) (c:Nat) (n:Int) (b:LA) (δ:T) (κl:(Nat×Int×LA)->T) (κr:(Nat×LA)->T):T:=br (decide (n<a.length)) (br (ixI a n) (br (ixS a n (Sh.list 3) 0) (br (decide (0<=k)&&decide (k<=d.length)&&(decide (0<=i)&&decide (i<=(↑k.toNat:Int)))) (br (ixI a n) (br (ixS a n (Sh.list 3) 0) (br ((xmF (List.take (k.toNat - i.toNat) (List.drop i.toNat d)) (gC a n 0).toList).isSome) (br (rmB c b 1 48) (κl (c+1,i64.wrap (n+1),b++[AV.agg [AV.list 3 (gC a n 0).toList,AV.list 2 ((xmF (List.take (k.toNat - i.toNat) (List.drop i.toNat d)) (gC a n 0).toList).getD [])]])) δ) δ) δ) δ) δ) δ) δ) (κr (c,b))
def xdg (d:LA) (i k:Int) (c:LA):StT (Nat×Int×LA) (Nat×LA):=fun (b,n,a)=>xfB d i k c b n a none inL inR
def xgX:=xtp.l 66 0 [] [(6,xe6.lp)] Tryz.f62 2 lk0 [3,4,5,6,7,8] [3,4,6] [(4,2,96)] (q6 (qL 3) (xH6 0 0 0) qI qI (qL 1) qI) (q1 (qB 0 2 96 xHZ)) (fun (d,b,i,k,c,n,_) (a,_)=>(xdg d i k c,(b,n,a),fun p=>(.leaf (.exit 4) [AV.list 3 d,AV.osl 0 0 0 p.1,AV.int .i64 k] [bF 0 2 96 p.2]))) (0,[]) fun (d,_,i,k,c,_,_) _ (b,n,a)=>(((d,b,i,k,c,n,()),(a,())),xfB d i k c b n a none)
def xca (c:LA) (b:Nat) (i:Int) (a:LA):=((Iter (xbK c b i) (i,a)).getD (0,[])).fst
def xjX (c:LA) (a:Nat) (i:Int) (b:LA):=Iter (xdg c i (xca c a i b) ((xo2 (List.take ((xca c a i b).toNat - i.toNat) (List.drop i.toNat c))).getD [])) (a,0,((Iter (xbK c a i) (i,b)).getD (0,[])).snd)
def xjW (c:LA) (b:Nat) (i:Int) (a:LA):=(xjX c b i a).getD (0,[])
def xhJ {T:Type} (c:LA) (b:Nat) (i:Int) (a:LA) (δ:T) (κl:(Nat×Int×LA)->T) (κr:(Nat×LA)->T):T:=br (decide (i<c.length)) (br ((Iter (xbK c b i) (i,a)).isSome) (br (decide (0<=xca c b i a)&&decide (xca c b i a<=c.length)&&(decide (0<=i)&&decide (i<=(↑(xca c b i a).toNat:Int)))) (br ((xo2 (List.take ((xca c b i a).toNat - i.toNat) (List.drop i.toNat c))).isSome) (br ((xjX c b i a).isSome) (κl ((xjW c b i a).fst,xca c b i a,(xjW c b i a).snd)) δ) δ) δ) δ) (κr (b,a))
def xdf (c:LA):StT (Nat×Int×LA) (Nat×LA):=fun (b,i,a)=>xhJ c b i a none inL inR
def xoj:=xtp.l 66 0 [] [(6,xe6.lp),(10,xgX.lp)] Tryz.f62 0 (lks (lkC xe6.ok (lkC xgX.ok lkN))) [3,4,5] [4] [(4,2,96)] (q3 (qL 3) (xH6 0 0 0) qI) (q1 (qB 0 2 96 xHZ)) (fun (c,b,i,_) (a,_)=>(xdf c,(b,i,a),fun p=>(.leaf (.exit 0) [AV.osl 0 0 0 p.1] [bF 0 2 96 p.2]))) (0,[]) fun (c,_,_,_) _ (b,i,a)=>(((c,b,i,()),(a,())),xhJ c b i a none)
def xmQ (l:LA):=Iter (xdf ((xbL 100 l).getD [])) (0,0,[])
def xmP (l:LA):=(xmQ l).getD (0,[])
def xmN (l:LA):=(xmP l).snd
def xmO (l:LA):=(xmP l).fst
def xnG {T:Type} (l:LA) (δ:T) (κ:LA->T):T:=br ((xbL 100 l).isSome) (br ((xmQ l).isSome) (br (decide (0+xmO l<=(xmN l).length)&&true) (κ (List.take (xmO l) (List.drop 0 (xmN l)))) δ) δ) δ
def xjV (l:LA):=xnG l none some
def xAW:EO:=xtp.f Tryz.func62 66 0 [] [(6,xe6.lp),(10,xgX.lp),(4,xoj.lp)] (lks (lkC xoj.ok (lkC xe6.ok (lkC xgX.ok lkN)))) (u1 (uL 3)) (fun (l,_) _=>xnG l) (fun _ p=>AV.list 2 p) []
def xdE (l:LA) (n i:Int):=decide ((gC l i 1).toInt>=n)
def xbJ (l:LA) (i:Int):=ixI l i
def xda (l:LA) (b:Nat) (i:Int) (a:LA):=(xbY b (gC l i 0).toInt 1099511627776 a).getD (false,(0,[],[]),0,[])
def xdb (l:LA) (b:Nat) (i:Int) (a:LA):=xbY b (gC l i 0).toInt ((l.getD (i64.wrap (i+1)).toNat .top).cells.getD 0 .top).toInt a
def xdc (l:LA) (i:Int):=decide (i64.wrap (i+1)<(↑l.length:Int))
def xdL (l:LA) (b:Nat) (i:Int) (a:LA):=(xdb l b i a).getD (false,(0,[],[]),0,[])
def xdM (l:LA) (b:Nat) (i:Int) (a:LA):=(xda l b i a).snd
def xdN (l:LA) (b:Nat) (i:Int) (a:LA):=(xda l b i a).fst
def xdH (l:LA) (b:Nat) (i:Int) (a:LA):=(xdL l b i a).snd
def xdI (l:LA) (b:Nat) (i:Int) (a:LA):=(xdL l b i a).fst
def xdJ (l:LA) (b:Nat) (i:Int) (a:LA):=(xdM l b i a).fst
def xdK (l:LA) (b:Nat) (i:Int) (a:LA):=(xdM l b i a).snd
def xdF (l:LA) (b:Nat) (i:Int) (a:LA):=(xdH l b i a).snd
def xdG (l:LA) (b:Nat) (i:Int) (a:LA):=(xdH l b i a).fst
def xcY {T:Type} (l:LA) (n:Int) (b:Nat) (i:Int) (a:LA) (δ:T) (κl:(Nat×Int×LA)->T) (κr:(Nat×LA)->T):T:=br (decide (i<l.length)) (br (xdc l i) (br (decide (0<=i64.wrap (i+1))&&xdc l i) (br (decide ((i64.wrap (i+1)).toNat<l.length)&&xHa (Sh.int .i64) ((l.getD (i64.wrap (i+1)).toNat .top).cells.getD 0 .top)) (br (xbJ l i) (br (ixS l i (Sh.int .i64) 1) (br (xdE l n i) (br (xbJ l i) (br (ixS l i (Sh.int .i64) 0) (br ((xdb l b i a).isSome) (κl (br (xdI l b i a) (xdG l b i a).fst (xdF l b i a).fst,i64.wrap (i+1),br (xdI l b i a) (xdG l b i a).snd.snd (xdF l b i a).snd)) δ) δ) δ) (κl (b,i64.wrap (i+1),a))) δ) δ) δ) δ) (br (xbJ l i) (br (ixS l i (Sh.int .i64) 1) (br (xdE l n i) (br (xbJ l i) (br (ixS l i (Sh.int .i64) 0) (br ((xbY b (gC l i 0).toInt 1099511627776 a).isSome) (κl (br (xdN l b i a) (xdJ l b i a).fst (xdK l b i a).fst,i64.wrap (i+1),br (xdN l b i a) (xdJ l b i a).snd.snd (xdK l b i a).snd)) δ) δ) δ) (κl (b,i64.wrap (i+1),a))) δ) δ)) (κr (b,a))
def xa6 (l:LA) (n:Int):StT (Nat×Int×LA) (Nat×LA):=fun (b,i,a)=>xcY l n b i a none inL inR
def xne:=xAW.l 42 0 [] [] Tryz.f85 0 lk0 [0,1,5,6] [5] [(5,2,56)] (q4 (qL 2) qI (xH6 0 0 0) qI) (q1 (qB 0 2 56 xHZ)) (fun (l,n,b,i,_) (a,_)=>(xa6 l n,(b,i,a),fun p=>(.leaf (.exit 0) [AV.osl 0 0 0 p.1] [bF 0 2 56 p.2]))) (0,[]) fun (l,n,_,_,_) _ (b,i,a)=>(((l,n,b,i,()),(a,())),xcY l n b i a none)
def xlC (l:LA) (n:Int):=(Iter (xa6 l n) (0,0,[])).getD (0,[])
def xlA (l:LA) (n:Int):=(xlC l n).snd
def xlB (l:LA) (n:Int):=(xlC l n).fst
def xmq {T:Type} (l:LA) (n:Int) (δ:T) (κ:LA->T):T:=br ((Iter (xa6 l n) (0,0,[])).isSome) (br (decide (0+xlB l n<=(xlA l n).length)&&true) (κ (List.take (xlB l n) (List.drop 0 (xlA l n)))) δ) δ
def xew (l:LA) (n:Int):=xmq l n none some
def xAX:EO:=xAW.f Tryz.func85 42 0 [] [(3,xne.lp)] (lk1 xne.ok) (u2 (uL 2) uI) (fun (l,n,_) _=>xmq l n) (fun _ p=>AV.list 2 p) []
def xhG (l:LA) (i:Int):=decide (i.toNat<l.length)&&((l.getD i.toNat .top).cells.length==2&&xHh [Sh.int .i64,Sh.int .i64] (l.getD i.toNat .top).cells 0)
def xf9 {T:Type} (l:LA) (b:Nat) (i c d:Int) (a:LA) (δ:T) (κl:(Nat×Int×Int×Int×LA)->T) (κr:(Nat×Int×Int×Int×LA)->T):T:=br (decide (i<l.length)) (br (ixI l i) (br (xhG l i) (br (decide (xk5 (gC l i 0).toInt (gC l i 1).toInt c d<=0)) (br (ixI l i) (br (xhG l i) (br (rmB b a 1 16) (κl (b+1,i64.wrap (i+1),c,d,a++[AV.agg [AV.int .i64 (gC l i 0).toInt,AV.int .i64 (gC l i 1).toInt]])) δ) δ) δ) (κr (b,i,c,d,a))) δ) δ) (κr (b,i,c,d,a))
def xcu (l:LA):StT (Nat×Int×Int×Int×LA) (Nat×Int×Int×Int×LA):=fun (b,i,c,d,a)=>xf9 l b i c d a none inL inR
def xoT:=xAX.l 38 0 [] [] Tryz.f86 0 lk0 [0,3,5,6] [0,3,5,6] [(5,2,56)] (q4 (qL 2) (xH7 0 0 0 0) (xH6 1 0 0) qI) (q2 (qB 0 2 56 (q1 (xH8 (q2 qI qI)))) (qB 0 2 56 xHZ)) (fun (l,_,b,i,_) (((c,d,_),_),a,_)=>(xcu l,(b,i,c,d,a),fun p=>(.leaf (.exit 0) [AV.list 2 l,AV.own 0 0 0 0,AV.osl 1 0 0 p.1,AV.int .i64 p.2.1] [bF 0 2 56 [AV.agg [AV.int .i64 p.2.2.1,AV.int .i64 p.2.2.2.1]],bF 0 2 56 p.2.2.2.2]))) (0,0,0,0,[]) fun (l,_,_,_,_) _ (b,i,c,d,a)=>(((l,(),b,i,()),(((c,d,()),()),a,())),xf9 l b i c d a none)
def xmv (l:LA) (a b:Int):=Iter (xcu l) (0,0,a,b,[])
def xmu (l:LA) (a b:Int):=(xmv l a b).getD (0,0,0,0,[])
def xnA (l:LA) (a b:Int):=(xmu l a b).snd
def xmt (l:LA) (a b:Int):=(xmu l a b).fst
def xhZ (l:LA) (a b:Int):=xmt l a b+1
def xhx (l:LA) (a b:Int):=(xnA l a b).fst
def xnz (l:LA) (a b:Int):=(xnA l a b).snd
def xnv (l:LA) (a b:Int):=List.take (l.length - (xhx l a b).toNat) (List.drop (xhx l a b).toNat l)
def xny (l:LA) (a b:Int):=(xnz l a b).snd
def xhY (l:LA) (a b:Int):=xhZ l a b+(xnv l a b).length
def xnw (l:LA) (a b:Int):=(xny l a b).snd
def xnu (l:LA) (a b:Int):=xnw l a b++[AV.agg [AV.int .i64 (xnz l a b).fst,AV.int .i64 (xny l a b).fst]]
def xnt (l:LA) (a b:Int):=xnu l a b++xnv l a b
def xoC {T:Type} (l:LA) (a b:Int) (δ:T) (κ:LA->T):T:=br ((xmv l a b).isSome) (br (xmt l a b==(xnw l a b).length&&(decide (xhZ l a b*16<=140737488355328)&&decide (xhZ l a b<=4611686018427387904))) (br (decide (0<=xhx l a b)&&decide (xhx l a b<=l.length)) (br (xhZ l a b==(xnu l a b).length&&(decide (xhY l a b*16<=140737488355328)&&decide (xhY l a b<=4611686018427387904))) (br (decide (0+xhY l a b<=(xnt l a b).length)&&true) (κ (List.take (xhY l a b) (List.drop 0 (xnt l a b)))) δ) δ) δ) δ) δ
def xnX (l:LA) (a b:Int):=xoC l a b none some
def xvP:EO:=xAX.f Tryz.func86 38 0 [] [(3,xoT.lp)] (lk1 xoT.ok) (u2 (uL 2) (xIb (u2 uI uI))) (fun (l,(a,b,_),_) _=>xoC l a b) (fun _ p=>AV.list 2 p) []
def xhF {T:Type} (l:LA) (n:Int) (a b:LA) (i:Int) (δ:T) (κl:(LA×Int)->T) (κr:(LA)->T):T:=br (decide (i<a.length)) (br (ixI a i) (br (ixT a i 2 [Sh.int .i64,Sh.int .i64] 0) (br ((xnX b (gC a i 0).toInt (gC a i 1).toInt).isSome) (κl ((xnX b (gC a i 0).toInt (gC a i 1).toInt).getD [],i64.wrap (i+1))) δ) δ) δ) (κr (b))
def xch (l:LA) (n:Int) (b:LA):StT (LA×Int) (LA):=fun (a,i)=>xhF l n b a i none inL inR
def xgU:=xvP.l 31 0 [] [] Tryz.f64 1 lk0 [0,3,4,5,6] [0,3,4] [(3,2,1073741824)] (q5 (qL 2) (qL 2) qI (qL 2) qI) xHX (fun (l,a,n,b,i,_) _=>(xch l n b,(a,i),fun p=>(.leaf (.exit 2) [AV.list 2 l,AV.list 2 p,AV.int .i64 n] []))) [] fun (l,_,n,b,_,_) _ (a,i)=>(((l,a,n,b,i,()),()),xhF l n b a i none)
def xhE {T:Type} (l a:LA) (n:Int) (δ:T) (κl:(LA×Int)->T) (κr:(Bool×(LA×LA)×(LA))->T):T:=br (decide (n<=1048576)) (br ((xew l n).isSome) (br ((↑((xew l n).getD []).length:Int)==0) (κr (true,(a,a),[])) (br ((Iter (xch l n ((xew l n).getD [])) (a,0)).isSome) (κl ((Iter (xch l n ((xew l n).getD [])) (a,0)).getD [],i64.wrap (n+1))) δ)) δ) (κr (false,([],[]),(a)))
def xcg (l:LA):StT (LA×Int) (Bool×(LA×LA)×(LA)):=fun (a,n)=>xhE l a n none inL inR
def xn9:=xvP.l 31 0 [] [(9,xgU.lp)] Tryz.f64 0 (lk1 xgU.ok) [0,3,4] [2,3] [(3,2,1073741824)] (q3 (qL 2) (qL 2) qI) xHX (fun (l,a,n,_) _=>(xcg l,(a,n),fun p=>(.node p.1 (.leaf .ret [AV.list 2 p.2.1.1,AV.list 2 p.2.1.2] []) (.leaf (.exit 0) [.top,AV.list 2 p.2.2] [])))) (false,([],[]),[]) fun (l,_,_,_) _ (a,n)=>(((l,a,n,()),()),xhE l a n none)
def xms (l:LA):=(Iter (xcg l) ([],1)).getD (false,([],[]),[])
def xmr (l:LA):=(xms l).snd
def xns {T:Type} (l:LA) (δ:T) (κ:LA->T):T:=br ((Iter (xcg l) ([],1)).isSome) (br ((xms l).fst) (κ ((xmr l).fst.fst)) (κ ((xmr l).snd))) δ
def xen (l:LA):=xns l none some
def xAY:EO:=xvP.f Tryz.func64 31 0 [] [(9,xgU.lp),(3,xn9.lp)] (lks (lkC xn9.ok (lkC xgU.ok lkN))) (u1 (uL 2)) (fun (l,_) _=>xns l) (fun _ p=>AV.list 2 p) []
def xhI {T:Type} (d c:LA) (b:Nat) (i:Int) (a:LA) (δ:T) (κl:(Nat×Int×LA)->T) (κr:(Nat×LA)->T):T:=br (decide (i<c.length)) (br (ixI c i) (br (ixT c i 2 [Sh.int .i64,Sh.int .i64] 0) (br (rmB b a 1 40) (κl (b+1,i64.wrap (i+1),a++[AV.agg [AV.list 3 d,AV.int .i64 (gC c i 0).toInt,AV.int .i64 (gC c i 1).toInt]])) δ) δ) δ) (κr (b,a))
def xci (c d:LA):StT (Nat×Int×LA) (Nat×LA):=fun (b,i,a)=>xhI c d b i a none inL inR
def xoi:=xAY.l 23 0 [] [] Tryz.f63 0 lk0 [0,1,5,6] [5] [(5,3,60)] (q4 (qL 3) (qL 2) (xH6 0 0 0) qI) (q1 (qB 0 3 60 xHZ)) (fun (c,d,b,i,_) (a,_)=>(xci c d,(b,i,a),fun p=>(.leaf (.exit 0) [AV.osl 0 0 0 p.1] [bF 0 3 60 p.2]))) (0,[]) fun (c,d,_,_,_) _ (b,i,a)=>(((c,d,b,i,()),(a,())),xhI c d b i a none)
def xmM (a b:LA):=(Iter (xci a b) (0,0,[])).getD (0,[])
def xmK (a b:LA):=(xmM a b).fst
def xmL (a b:LA):=(xmM a b).snd
def xnF {T:Type} (a b:LA) (δ:T) (κ:LA->T):T:=br ((Iter (xci a b) (0,0,[])).isSome) (br (decide (0+xmK a b<=(xmL a b).length)&&true) (κ (List.take (xmK a b) (List.drop 0 (xmL a b)))) δ) δ
def xjU (a b:LA):=xnF a b none some
def xAZ:EO:=xAY.f Tryz.func63 23 0 [] [(3,xoi.lp)] (lk1 xoi.ok) (u2 (uL 3) (uL 2)) (fun (a,b,_) _=>xnF a b) (fun _ p=>AV.list 3 p) []
def xjq (g:LA) (a:Nat) (i:Int):=a+((xjU (gC g i 0).toList ((xen (gC g i 1).toList).getD [])).getD []).length
def xkr {T:Type} (g:LA) (a:Nat) (i:Int) (b:LA) (δ:T) (κl:(Nat×Int×LA)->T) (κr:(Nat×LA)->T):T:=br (decide (i<g.length)) (br (ixI g i) (br (ixS g i (Sh.list 3) 0) (br (ixI g i) (br (ixS g i (Sh.list 2) 1) (br ((xen (gC g i 1).toList).isSome) (br ((xjU (gC g i 0).toList ((xen (gC g i 1).toList).getD [])).isSome) (br (a==b.length&&(decide (xjq g a i*40<=140737488355328)&&decide (xjq g a i<=4611686018427387904))) (κl (xjq g a i,i64.wrap (i+1),b++(xjU (gC g i 0).toList ((xen (gC g i 1).toList).getD [])).getD [])) δ) δ) δ) δ) δ) δ) δ) (κr (a,b))
def xet (g:LA):StT (Nat×Int×LA) (Nat×LA):=fun (b,i,a)=>xkr g b i a none inL inR
def xpS:=xAZ.l 29 0 [] [] Tryz.f30 0 lk0 [3,4,5] [4] [(4,3,60)] (q3 (qL 2) (xH6 0 0 0) qI) (q1 (qB 0 3 60 xHZ)) (fun (g,b,i,_) (a,_)=>(xet g,(b,i,a),fun p=>(.leaf (.exit 0) [AV.osl 0 0 0 p.1] [bF 0 3 60 p.2]))) (0,[]) fun (g,_,_,_) _ (b,i,a)=>(((g,b,i,()),(a,())),xkr g b i a none)
def xpw (l:LA):=(Iter (xet ((xjV l).getD [])) (0,0,[])).getD (0,[])
def xpu (l:LA):=(xpw l).snd
def xpv (l:LA):=(xpw l).fst
def xp9 {T:Type} (l:LA) (δ:T) (κ:LA->T):T:=br ((xjV l).isSome) (br ((Iter (xet ((xjV l).getD [])) (0,0,[])).isSome) (br (decide (0+xpv l<=(xpu l).length)&&true) (κ (List.take (xpv l) (List.drop 0 (xpu l)))) δ) δ) δ
def xgW (l:LA):=xp9 l none some
def xAx:EO:=xAZ.f Tryz.func30 29 0 [] [(4,xpS.lp)] (lk1 xpS.ok) (u1 (uL 3)) (fun (l,_) _=>xp9 l) (fun _ p=>AV.list 3 p) []
def xks {T:Type} (l:LA) (i:Int) (δ:T) (κl:(Int)->T) (κr:(Bool×(Bool)×(Unit))->T):T:=br (decide (i<l.length)) (br (ixI l i) (br (ixS l i (Sh.list 3) 0) (br (decide ((↑(gC l i 0).toList.length:Int)>60)) (κr (true,(false),())) (κl (i64.wrap (i+1)))) δ) δ) (κr (false,false,()))
def xct (l:LA):StT (Int) (Bool×(Bool)×(Unit)):=fun (i)=>xks l i none inL inR
def xpT:=xAx.l 23 0 [] [] Tryz.f16 0 lk0 [0,5] [4] [] (q2 (qL 3) qI) xHX (fun (l,i,_) _=>(xct l,(i),fun p=>(.node p.1 (.leaf .ret [AV.bool p.2.1] []) (.leaf (.exit 0) [.top] [])))) (false,false,()) fun (l,_,_) _ (i)=>(((l,i,()),()),xks l i none)
def xqa {T:Type} (l:LA) (a:Int) (δ:T) (κ:Bool->T):T:=br (decide ((↑l.length:Int)>a)) (κ (false)) (br ((Iter (xct l) 0).isSome) (br (((Iter (xct l) 0).getD (false,false,())).fst) (κ (((Iter (xct l) 0).getD (false,false,())).snd.fst)) (κ (true))) δ)
def xlW (l:LA) (a:Int):=xqa l a none some
def xA0:EO:=xAx.f Tryz.func16 23 0 [] [(4,xpT.lp)] (lk1 xpT.ok) (u2 (uL 3) uI) (fun (l,a,_) _=>xqa l a) (fun _ p=>AV.bool p) false
def xiJ {T:Type} (l:LA) (b:Nat) (i:Int) (a:LA) (δ:T) (κl:(Nat×Int×LA)->T) (κr:(Nat×LA)->T):T:=br (decide (i<l.length)) (br (ixI l i) (br (ixS l i (Sh.list 3) 2) (br (ixI l i) (br (ixT l i 9 [Sh.int .i64,Sh.int .i64] 3) (br (rmB b a 1 40) (κl (b+1,i64.wrap (i+1),a++[AV.agg [AV.list 3 (gC l i 2).toList,AV.int .i64 (gC l i 3).toInt,AV.int .i64 (gC l i 4).toInt]])) δ) δ) δ) δ) δ) (κr (b,a))
def xdP (l:LA):StT (Nat×Int×LA) (Nat×LA):=fun (b,i,a)=>xiJ l b i a none inL inR
def xoU:=xA0.l 26 0 [] [] Tryz.f34 0 lk0 [0,3,4] [3] [(3,3,60)] (q3 (qL 9) (xH6 0 0 0) qI) (q1 (qB 0 3 60 xHZ)) (fun (l,b,i,_) (a,_)=>(xdP l,(b,i,a),fun p=>(.leaf (.exit 0) [AV.osl 0 0 0 p.1] [bF 0 3 60 p.2]))) (0,[]) fun (l,_,_,_) _ (b,i,a)=>(((l,b,i,()),(a,())),xiJ l b i a none)
def xnK (l:LA):=(Iter (xdP l) (0,0,[])).getD (0,[])
def xnI (l:LA):=(xnK l).snd
def xnJ (l:LA):=(xnK l).fst
def xoI {T:Type} (l:LA) (δ:T) (κ:LA->T):T:=br ((Iter (xdP l) (0,0,[])).isSome) (br (decide (0+xnJ l<=(xnI l).length)&&true) (κ (List.take (xnJ l) (List.drop 0 (xnI l)))) δ) δ
def xkQ (l:LA):=xoI l none some
def xEP:EO:=xA0.f Tryz.func34 26 0 [] [(3,xoU.lp)] (lk1 xoU.ok) (u1 (uL 9)) (fun (l,_) _=>xoI l) (fun _ p=>AV.list 3 p) []
def xg1 (c d:Int) (g:LA) (h i b a e f:Int):Bool:=(br (xe0 b a) ((a==1099511627776)) ((false)))
def xwO {T:Type} (c d:Int) (g:LA) (h i b a e f:Int) (δ:T) (κ:Bool->T):T:=br (xe0 b a) (κ (a==1099511627776)) (κ (false))
def xEC:EO:=xEP.fT Tryz.func28 12 0 [] [] lk0 (fun ((a,b,g,h,i,c,d,e,f,_),_)=>xwO a b g h i c d e f none) (u1 (xIb (xHW uI (xHW uI (u7 (uL 3) uI uI uI uI uI uI))))) (fun ((a,b,g,h,i,c,d,e,f,_),_)=>xg1 a b g h i c d e f) (fun _ p=>(AV.bool p))
def xkt (d e:Int) (a:LA) (b c f g h i:Int):LA×Int×Int:=((a,b,c))
def xwP {T:Type} (d e:Int) (a:LA) (b c f g h i:Int) (δ:T) (κ:LA×Int×Int->T):T:=κ (a,b,c)
def xED:EO:=xEC.fT Tryz.func39 8 0 [] [] lk0 (fun ((a,b,g,h,i,c,d,e,f,_),_)=>xwP a b g h i c d e f none) (u1 (xIb (xHW uI (xHW uI (u7 (uL 3) uI uI uI uI uI uI))))) (fun ((a,b,g,h,i,c,d,e,f,_),_)=>xkt a b g h i c d e f) (fun _ p=>(AV.agg [AV.list 3 p.1,AV.int .i64 p.2.1,AV.int .i64 p.2.2]))
def xpB {T:Type} (a:LA) (c d:Int) (b:LA) (e f:Int) (δ:T) (κ:Bool->T):T:=br (c==e&&(d==f&&true)) (br ((xa8 a b).isSome) (κ ((xa8 a b).getD 0==0)) δ) (κ (false))
def xmW (a:LA) (b c:Int) (d:LA) (e f:Int):=xpB a b c d e f none some
def xAK:EO:=xED.f Tryz.func52 18 0 [] [] lk0 (u2 (xIb (u3 (uL 3) uI uI)) (xIb (u3 (uL 3) uI uI))) (fun ((a,b,c,_),(d,e,g,_),_) _=>xpB a b c d e g) (fun _ p=>AV.bool p) false
def xkI (l:LA) (i:Int) (a:LA) (b c:Int):=xmW (gC l i 0).toList (gC l i 1).toInt (gC l i 2).toInt a b c
def xiM {T:Type} (l:LA) (n i:Int) (a:LA) (b c:Int) (δ:T) (κl:(Int×Int×LA×Int×Int)->T) (κr:(Int)->T):T:=br (decide (i<l.length)) (br (ixI l i) (br (ixT l i 3 [Sh.list 3,Sh.int .i64,Sh.int .i64] 0) (br ((xkI l i a b c).isSome) (br ((xkI l i a b c).getD false) (κl (i64.wrap (n+1),i64.wrap (i+1),a,b,c)) (κl (n,i64.wrap (i+1),a,b,c))) δ) δ) δ) (κr (n))
def xeH (l:LA):StT (Int×Int×LA×Int×Int) (Int):=fun (n,i,a,b,c)=>xiM l n i a b c none inL inR
def xoW:=xAK.l 22 0 [] [] Tryz.f53 0 lk0 [0,3,5,6] [5] [] (q4 (qL 3) (xH7 0 0 0 0) qI qI) (q1 (qB 0 3 60 (q1 (xH8 (q3 (qL 3) qI qI))))) (fun (l,_,n,i,_) (((a,b,c,_),_),_)=>(xeH l,(n,i,a,b,c),fun p=>(.leaf (.exit 0) [AV.int .i64 p] []))) 0 fun (l,_,_,_,_) _ (n,i,a,b,c)=>(((l,(),n,i,()),(((a,b,c,()),()),())),xiM l n i a b c none)
def xnL (l a:LA) (b c:Int):=Iter (xeH l) (0,0,a,b,c)
def xoK {T:Type} (l a:LA) (b c:Int) (δ:T) (κ:Int->T):T:=br ((xnL l a b c).isSome) (κ ((xnL l a b c).getD 0)) δ
def xnZ (l a:LA) (b c:Int):=xoK l a b c none some
def xrr:EO:=xAK.f Tryz.func53 22 0 [] [(3,xoW.lp)] (lk1 xoW.ok) (u2 (uL 3) (xIb (u3 (uL 3) uI uI))) (fun (l,(a,b,c,_),_) _=>xoK l a b c) (fun _ p=>AV.int .i64 p) 0
def xjd (l:LA) (k:Int):=(xkt (gC l k 0).toInt (gC l k 1).toInt (gC l k 2).toList (gC l k 3).toInt (gC l k 4).toInt (gC l k 5).toInt (gC l k 6).toInt (gC l k 7).toInt (gC l k 8).toInt).snd
def xje (l:LA) (i:Int):=(xkt (gC l i 0).toInt (gC l i 1).toInt (gC l i 2).toList (gC l i 3).toInt (gC l i 4).toInt (gC l i 5).toInt (gC l i 6).toInt (gC l i 7).toInt (gC l i 8).toInt).snd
def xjf (l:LA) (k:Int):=decide (k.toNat<l.length)&&((l.getD k.toNat .top).cells.length==9&&xHh [Sh.int .i64,Sh.int .i64,Sh.list 3,Sh.int .i64,Sh.int .i64,Sh.int .i64,Sh.int .i64,Sh.int .i64,Sh.int .i64] (l.getD k.toNat .top).cells 0)
def xgm (l:LA) (k:Int):=ixI l k
def xjc (l:LA) (i k:Int):=xmW (gC l k 2).toList (xjd l k).fst (xjd l k).snd (gC l i 2).toList (xje l i).fst (xje l i).snd
def xgZ {T:Type} (l b c:LA) (i a k:Int) (δ:T) (κl:(Int×Int)->T) (κr:(Int)->T):T:=br (decide (k<l.length)) (br (xgm l k) (br (xjf l k) (br (xg1 (gC l k 0).toInt (gC l k 1).toInt (gC l k 2).toList (gC l k 3).toInt (gC l k 4).toInt (gC l k 5).toInt (gC l k 6).toInt (gC l k 7).toInt (gC l k 8).toInt) (br (xgm l k) (br (xjf l k) (br (ixI l i) (br (ixT l i 9 [Sh.int .i64,Sh.int .i64,Sh.list 3,Sh.int .i64,Sh.int .i64,Sh.int .i64,Sh.int .i64,Sh.int .i64,Sh.int .i64] 0) (br ((xjc l i k).isSome) (br ((xjc l i k).getD false) (br (xgm l k) (br (ixS l k (Sh.int .i64) 0) (br (ixI l i) (br (ixS l i (Sh.int .i64) 0) (br (decide ((gC l k 0).toInt<(gC l i 0).toInt)) (κl (i64.wrap (a+1),i64.wrap (k+1))) (κl (a,i64.wrap (k+1)))) δ) δ) δ) δ) (κl (a,i64.wrap (k+1)))) δ) δ) δ) δ) δ) (κl (a,i64.wrap (k+1)))) δ) δ) (κr (a))
def xb1 (l a c:LA) (i:Int):StT (Int×Int) (Int):=fun (b,k)=>xgZ l a c i b k none inL inR
def xdQ:=xrr.l 135 0 [] [] Tryz.f19 1 lk0 [0,6,7,8,9,10] [0,6,7,8,9] [(7,1,1073741824)] (q6 (qL 9) (qL 3) (qL 1) qI qI qI) xHX (fun (l,a,c,i,b,k,_) _=>(xb1 l a c i,(b,k),fun p=>(.leaf (.exit 2) [AV.list 9 l,AV.list 3 a,AV.list 1 c,AV.int .i64 i,AV.int .i64 p] []))) 0 fun (l,a,c,i,_,_,_) _ (b,k)=>(((l,a,c,i,b,k,()),()),xgZ l a c i b k none)
def xja (l:LA) (i:Int):=(xkt (gC l i 0).toInt (gC l i 1).toInt (gC l i 2).toList (gC l i 3).toInt (gC l i 4).toInt (gC l i 5).toInt (gC l i 6).toInt (gC l i 7).toInt (gC l i 8).toInt).snd
def xjb (l:LA) (i:Int):=decide (i.toNat<l.length)&&((l.getD i.toNat .top).cells.length==9&&xHh [Sh.int .i64,Sh.int .i64,Sh.list 3,Sh.int .i64,Sh.int .i64,Sh.int .i64,Sh.int .i64,Sh.int .i64,Sh.int .i64] (l.getD i.toNat .top).cells 0)
def xgl (l:LA) (i:Int):=ixI l i
def xi9 (l a:LA) (i:Int):=xnZ a (gC l i 2).toList (xja l i).fst (xja l i).snd
def xgY {T:Type} (l b a:LA) (i:Int) (δ:T) (κl:(LA×Int)->T) (κr:(LA)->T):T:=br (decide (i<l.length)) (br ((Iter (xb1 l b a i) (0,0)).isSome) (br (xgl l i) (br (xjb l i) (br (xg1 (gC l i 0).toInt (gC l i 1).toInt (gC l i 2).toList (gC l i 3).toInt (gC l i 4).toInt (gC l i 5).toInt (gC l i 6).toInt (gC l i 7).toInt (gC l i 8).toInt) (br (xgl l i) (br (xjb l i) (br ((xi9 l b i).isSome) (br (decide ((Iter (xb1 l b a i) (0,0)).getD 0>=(xi9 l b i).getD 0)) (br (xgl l i) (br (ixS l i (Sh.int .i64) 0) (br ((xem a (gC l i 0).toInt).isSome) (κl ((xem a (gC l i 0).toInt).getD [],i64.wrap (i+1))) δ) δ) δ) (κl (a,i64.wrap (i+1)))) δ) δ) δ) (κl (a,i64.wrap (i+1)))) δ) δ) δ) (κr (a))
def xbA (l a:LA):StT (LA×Int) (LA):=fun (b,i)=>xgY l a b i none inL inR
def xgk:=xrr.l 135 0 [] [(8,xdQ.lp)] Tryz.f19 0 (lk1 xdQ.ok) [0,6,7,8] [0,6,7] [(7,1,1073741824)] (q4 (qL 9) (qL 3) (qL 1) qI) xHX (fun (l,a,b,i,_) _=>(xbA l a,(b,i),fun p=>(.leaf (.exit 0) [AV.list 9 l,AV.list 3 a,AV.list 1 p] []))) [] fun (l,a,_,_,_) _ (b,i)=>(((l,a,b,i,()),()),xgY l a b i none)
def xjk (l:LA) (k:Int):=(xkt (gC l k 0).toInt (gC l k 1).toInt (gC l k 2).toList (gC l k 3).toInt (gC l k 4).toInt (gC l k 5).toInt (gC l k 6).toInt (gC l k 7).toInt (gC l k 8).toInt).snd
def xjl (l:LA) (k:Int):=decide (k.toNat<l.length)&&((l.getD k.toNat .top).cells.length==9&&xHh [Sh.int .i64,Sh.int .i64,Sh.list 3,Sh.int .i64,Sh.int .i64,Sh.int .i64,Sh.int .i64,Sh.int .i64,Sh.int .i64] (l.getD k.toNat .top).cells 0)
def xjj (l a:LA) (i k:Int):=xmW (gC l k 2).toList (xjk l k).fst (xjk l k).snd (gC a i 0).toList (gC a i 1).toInt (gC a i 2).toInt
def xg0 {T:Type} (l c e:LA) (d:Nat) (i b k:Int) (a:LA) (δ:T) (κl:(Int×Int×LA)->T) (κr:(Int×LA)->T):T:=br (decide (k<l.length)) (br (ixI l k) (br (xjl l k) (br (xg1 (gC l k 0).toInt (gC l k 1).toInt (gC l k 2).toList (gC l k 3).toInt (gC l k 4).toInt (gC l k 5).toInt (gC l k 6).toInt (gC l k 7).toInt (gC l k 8).toInt) (br (ixI l k) (br (xjl l k) (br (ixI c i) (br (ixT c i 3 [Sh.list 3,Sh.int .i64,Sh.int .i64] 0) (br ((xjj l c i k).isSome) (br ((xjj l c i k).getD false) (κl (i64.wrap (b+1),i64.wrap (k+1),a)) (κl (b,i64.wrap (k+1),a))) δ) δ) δ) δ) δ) (κl (b,i64.wrap (k+1),a))) δ) δ) (κr (b,a))
def xb2 (l d e:LA) (b:Nat) (i:Int):StT (Int×Int×LA) (Int×LA):=fun (c,k,a)=>xg0 l d e b i c k a none inL inR
def xgo:=xrr.l 135 0 [] [(8,xdQ.lp),(4,xgk.lp)] Tryz.f19 3 lk0 [0,6,7,11,12,13,14] [0,6,7,11,12,13] [(11,3,60),(7,1,1073741824)] (q7 (qL 9) (qL 3) (qL 1) (xH6 0 0 0) qI qI qI) (q1 (qB 0 3 60 xHZ)) (fun (l,d,e,a,i,c,k,_) (b,_)=>(xb2 l d e a i,(c,k,b),fun p=>(.leaf (.exit 6) [AV.list 9 l,AV.list 3 d,AV.list 1 e,AV.osl 0 0 0 a,AV.int .i64 i,AV.int .i64 p.1] [bF 0 3 60 p.2]))) (0,[]) fun (l,d,e,a,i,_,_,_) _ (c,k,b)=>(((l,d,e,a,i,c,k,()),(b,())),xg0 l d e a i c k b none)
def xjg (a:LA) (i:Int):=xnZ (List.take (i.toNat - 0) (List.drop 0 a)) (gC a i 0).toList (gC a i 1).toInt (gC a i 2).toInt
def xjh (a:LA) (i:Int):=decide (i.toNat<a.length)&&((a.getD i.toNat .top).cells.length==3&&xHh [Sh.list 3,Sh.int .i64,Sh.int .i64] (a.getD i.toNat .top).cells 0)
def xji (l c d:LA) (b:Nat) (i:Int) (a:LA):=(Iter (xb2 l c d b i) (0,0,a)).getD (0,[])
def xgn (l c d:LA) (b:Nat) (i:Int) (a:LA):=(xji l c d b i a).snd
def xgx {T:Type} (l b d:LA) (a:Nat) (i:Int) (c:LA) (δ:T) (κl:(Nat×Int×LA)->T) (κr:(Nat×LA)->T):T:=br (decide (i<b.length)) (br ((Iter (xb2 l b d a i) (0,0,c)).isSome) (br (decide (0<=i)&&decide (i<=b.length)&&true) (br (ixI b i) (br (xjh b i) (br ((xjg b i).isSome) (br (decide ((xjg b i).getD 0>=(xji l b d a i c).fst)) (br (ixI b i) (br (xjh b i) (br (a==(xgn l b d a i c).length&&(decide ((a+1)*40<=140737488355328)&&decide (a+1<=4611686018427387904))) (κl (a+1,i64.wrap (i+1),xgn l b d a i c++[AV.agg [AV.list 3 (gC b i 0).toList,AV.int .i64 (gC b i 1).toInt,AV.int .i64 (gC b i 2).toInt]])) δ) δ) δ) (κl (a,i64.wrap (i+1),xgn l b d a i c))) δ) δ) δ) δ) δ) (κr (a,c))
def xcQ (l c d:LA):StT (Nat×Int×LA) (Nat×LA):=fun (b,i,a)=>xgx l c d b i a none inL inR
def xng:=xrr.l 135 0 [] [(8,xdQ.lp),(4,xgk.lp),(20,xgo.lp)] Tryz.f19 2 (lk1 xgo.ok) [0,6,7,11,12] [7,11] [(11,3,60),(7,1,1073741824)] (q5 (qL 9) (qL 3) (qL 1) (xH6 0 0 0) qI) (q1 (qB 0 3 60 xHZ)) (fun (l,c,d,b,i,_) (a,_)=>(xcQ l c d,(b,i,a),fun p=>(.leaf (.exit 4) [AV.list 1 d,AV.osl 0 0 0 p.1] [bF 0 3 60 p.2]))) (0,[]) fun (l,c,d,_,_,_) _ (b,i,a)=>(((l,c,d,b,i,()),(a,())),xgx l c d b i a none)
def xlL (l a:LA):=Iter (xcQ l ((xgW a).getD []) ((Iter (xbA l ((xgW a).getD [])) ([],0)).getD [])) (0,0,[])
def xlK (l a:LA):=(xlL l a).getD (0,[])
def xlI (l a:LA):=(xlK l a).fst
def xlJ (l a:LA):=(xlK l a).snd
def xmV {T:Type} (l a:LA) (δ:T) (κ:LA×LA->T):T:=br ((xgW a).isSome) (br ((Iter (xbA l ((xgW a).getD [])) ([],0)).isSome) (br ((xlL l a).isSome) (br (decide (0+xlI l a<=(xlJ l a).length)&&true) (κ ((Iter (xbA l ((xgW a).getD [])) ([],0)).getD [],List.take (xlI l a) (List.drop 0 (xlJ l a)))) δ) δ) δ) δ
def xez (l a:LA):=xmV l a none some
def xuk:EO:=xrr.f Tryz.func19 135 0 [] [(8,xdQ.lp),(4,xgk.lp),(20,xgo.lp),(16,xng.lp)] (lks (lkC xgk.ok (lkC xdQ.ok (lkC xng.ok (lkC xgo.ok lkN))))) (u2 (uL 9) (uL 3)) (fun (l,a,_) _=>xmV l a) (fun _ p=>AV.tuple [AV.list 1 p.1,AV.list 3 p.2]) ([],[])
def xiL {T:Type} (l:LA) (i k:Int) (δ:T) (κl:(Int)->T) (κr:(Bool×(Bool)×(Unit))->T):T:=br (decide (k<i)) (br (ixI l i) (br (ixT l i 9 [Sh.int .i64,Sh.int .i64,Sh.list 3,Sh.int .i64,Sh.int .i64,Sh.int .i64,Sh.int .i64,Sh.int .i64,Sh.int .i64] 0) (br (xg1 (gC l i 0).toInt (gC l i 1).toInt (gC l i 2).toList (gC l i 3).toInt (gC l i 4).toInt (gC l i 5).toInt (gC l i 6).toInt (gC l i 7).toInt (gC l i 8).toInt) (br (ixI l k) (br (ixT l k 9 [Sh.int .i64,Sh.int .i64,Sh.list 3,Sh.int .i64,Sh.int .i64,Sh.int .i64,Sh.int .i64,Sh.int .i64,Sh.int .i64] 0) (br (xg1 (gC l k 0).toInt (gC l k 1).toInt (gC l k 2).toList (gC l k 3).toInt (gC l k 4).toInt (gC l k 5).toInt (gC l k 6).toInt (gC l k 7).toInt (gC l k 8).toInt) (br (ixI l i) (br (ixS l i (Sh.int .i64) 0) (br (ixI l k) (br (ixS l k (Sh.int .i64) 0) (br ((gC l i 0).toInt==(gC l k 0).toInt) (κr (true,(false),())) (κl (i64.wrap (k+1)))) δ) δ) δ) δ) (κl (i64.wrap (k+1)))) δ) δ) (κl (i64.wrap (k+1)))) δ) δ) (κr (false,false,()))
def xbX (l:LA) (i:Int):StT (Int) (Bool×(Bool)×(Unit)):=fun (k)=>xiL l i k none inL inR
def xhK:=xuk.l 41 0 [] [] Tryz.f17 1 lk0 [0,3,4] [0,2,3] [] (q3 (qL 9) qI qI) xHX (fun (l,i,k,_) _=>(xbX l i,(k),fun p=>(.node p.1 (.leaf .ret [AV.list 9 l,AV.bool p.2.1,AV.int .i64 i] []) (.leaf (.exit 2) [AV.list 9 l,.top,AV.int .i64 i] [])))) (false,false,()) fun (l,i,_,_) _ (k)=>(((l,i,k,()),()),xiL l i k none)
def xiK {T:Type} (l:LA) (i:Int) (δ:T) (κl:(Int)->T) (κr:(Bool×(Bool)×(Unit))->T):T:=br (decide (i<l.length)) (br ((Iter (xbX l i) 0).isSome) (br (((Iter (xbX l i) 0).getD (false,false,())).fst) (κr (true,(((Iter (xbX l i) 0).getD (false,false,())).snd.fst),())) (κl (i64.wrap (i+1)))) δ) (κr (false,false,()))
def xcC (l:LA):StT (Int) (Bool×(Bool)×(Unit)):=fun (i)=>xiK l i none inL inR
def xoV:=xuk.l 41 0 [] [(5,xhK.lp)] Tryz.f17 0 (lk1 xhK.ok) [0,3] [2] [] (q2 (qL 9) qI) xHX (fun (l,i,_) _=>(xcC l,(i),fun p=>(.node p.1 (.leaf .ret [AV.bool p.2.1] []) (.leaf (.exit 0) [.top] [])))) (false,false,()) fun (l,_,_) _ (i)=>(((l,i,()),()),xiK l i none)
def xoJ {T:Type} (l:LA) (δ:T) (κ:Bool->T):T:=br ((Iter (xcC l) 0).isSome) (br (((Iter (xcC l) 0).getD (false,false,())).fst) (κ (((Iter (xcC l) 0).getD (false,false,())).snd.fst)) (κ (true))) δ
def xnY (l:LA):=xoJ l none some
def xDw:EO:=xuk.f Tryz.func17 41 0 [] [(5,xhK.lp),(2,xoV.lp)] (lks (lkC xoV.ok (lkC xhK.ok lkN))) (u1 (uL 9)) (fun (l,_) _=>xoJ l) (fun _ p=>AV.bool p) false
def xdT (c d:Int) (g:LA) (h i b a e f:Int):Bool:=(br (xf6 b a) ((a==1099511627776)) ((false)))
def xv7 {T:Type} (c d:Int) (g:LA) (h i b a e f:Int) (δ:T) (κ:Bool->T):T:=br (xf6 b a) (κ (a==1099511627776)) (κ (false))
def xFJ:EO:=xDw.fT Tryz.func57 12 0 [] [] lk0 (fun ((a,b,g,h,i,c,d,e,f,_),_)=>xv7 a b g h i c d e f none) (u1 (xIb (xHW uI (xHW uI (u7 (uL 3) uI uI uI uI uI uI))))) (fun ((a,b,g,h,i,c,d,e,f,_),_)=>xdT a b g h i c d e f) (fun _ p=>(AV.bool p))
def xdR (l:LA):LA:=((l))
def xuw {T:Type} (l:LA) (δ:T) (κ:LA->T):T:=κ (l)
def xkU:EO:=xFJ.fT Tryz.func37 4 0 [] [] lk0 (fun (l,_)=>xuw l none) (u1 (uL 9)) (fun (l,_)=>xdR l) (fun _ p=>(AV.func 67 [AV.eptr 1 [AV.list 9 p] 0 0]))
end Go.Sim.M
