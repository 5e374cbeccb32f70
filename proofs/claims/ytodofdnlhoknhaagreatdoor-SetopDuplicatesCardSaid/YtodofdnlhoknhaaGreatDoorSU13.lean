/- Part 13 of the proof of the law. -/
import Derived.Test.YtodofdnlhoknhaaGreatDoorSU12
import Derived.StillTailTactics
set_option linter.defProp false
set_option linter.unusedVariables false
set_option linter.unusedSimpArgs false
set_option maxRecDepth 100000
noncomputable section
namespace Go.Sim.M
def cmpI (x y:Int):Int:=if x<y then -1 else if y<x then 1 else 0
def orI (x y:Int):Int:=if x=0 then y else x
end Go.Sim.M
namespace Go.Proofs
open Go.RowKit Go.Sim Go.Sim.M Go.Sort Go.Lib
def Tryz.cmp_walk (x y:Int) (w:World):Calls Tryz.prog 110 #[.int .i64 x,.int .i64 y] w fun e w'=>e=.returned (.int .i64 (cmpI x y))/\w'=w:=by
 unfold cmpI
 go_enter Tryz.func110,Tryz.ntmps110
 go_wp2
 all_goals (go_ret;exact ⟨rfl,rfl⟩)
def Tryz.or_walk (x y:Int) (b off c:Nat) (w:World) (h0:w.cell? ⟨b,off,none⟩=some (.int .i64 x)) (h1:w.cell? ⟨b,off+1,none⟩=some (.int .i64 y)):Calls Tryz.prog 109 #[.slice (some ⟨b,off,none⟩) 2 c] w fun e w'=>e=.returned (.int .i64 (orI x y))/\w'=w:=by
 unfold orI;by_cases hx:x=0
 . subst hx;rw [if_pos rfl];by_cases hy:y=0
   . subst hy
     go_enter Tryz.func109,Tryz.ntmps109
     go_wp2
     refine wp_loop_rounds 3 ?_;rw [rounds_succ]
     go_wp2
     rw [rounds_succ]
     go_wp2
     rw [rounds_succ]
     go_wp2
     go_ret
     exact ⟨rfl,rfl⟩
   . have hy':(y != 0)=true:=by simpa using hy
     go_enter Tryz.func109,Tryz.ntmps109
     go_wp2
     refine wp_loop_rounds 3 ?_;rw [rounds_succ]
     go_wp2
     rw [rounds_succ]
     go_wp2
     go_ret
     exact ⟨rfl,rfl⟩
 . have hx':(x != 0)=true:=by simpa using hx
   rw [if_neg hx]
   go_enter Tryz.func109,Tryz.ntmps109
   go_wp2
   refine wp_loop_rounds 3 ?_;rw [rounds_succ]
   go_wp2
   go_ret
   exact ⟨rfl,rfl⟩
def fill2I (u1 u2:Int):Instr.fill (fun i=>some (i*1,1)) ((Array.range (2*1)).map (fun x=>(Value.int .i64 0).cells[x % (Value.int .i64 0).cells.size]!)) [(0,.int .i64 u1),(1,.int .i64 u2)]=some #[.int .i64 u1,.int .i64 u2]:=by
 simp [Instr.fill,Array.range,Value.cells];apply Array.ext
 . simp
 . intro i h1 h2;rcases i with _|_|i
   . simp
   . simp
   . simp at h2;omega
set_option maxHeartbeats 2000000 in
def Tryz.levels2_walk (a b c d:Int) (w:World):Calls Tryz.prog 108 #[.agg #[.int .i64 a,.int .i64 b],.agg #[.int .i64 c,.int .i64 d]] w fun e w'=>e=.returned (.int .i64 (orI (cmpI a c) (cmpI b d)))/\∃ q J,w'=Sort.grow (w.drewN q) J:=by
 go_enter Tryz.func108,Tryz.ntmps108
 go_wp2_with (go_at_call 110;skip)
 have g0:(w.alloc (.cells #[.int .i64 a,.int .i64 b] 52)).heap[w.heap.size]?=some (.cells #[.int .i64 a,.int .i64 b] 52 (0,0)):=heap_alloc_new w _;have g1:((w.alloc (.cells #[.int .i64 a,.int .i64 b] 52)).alloc (.cells #[.int .i64 c,.int .i64 d] 52)).heap[w.heap.size+1]?=some (.cells #[.int .i64 c,.int .i64 d] 52 (0,0)):=by
  have:=heap_alloc_new (w.alloc (.cells #[.int .i64 a,.int .i64 b] 52)) (.cells #[.int .i64 c,.int .i64 d] 52);have e:(w.alloc (.cells #[.int .i64 a,.int .i64 b] 52)).heap.size=w.heap.size+1:=by simp
  rwa [e] at this
 have f0:((w.alloc (.cells #[.int .i64 a,.int .i64 b] 52)).alloc (.cells #[.int .i64 c,.int .i64 d] 52)).cell? ⟨w.heap.size,0,none⟩=some (.int .i64 a):=by
  rw [World.cell?_alloc_past _ _ _ (by simp)];simp only [World.cell?,g0];rfl
 have f1:((w.alloc (.cells #[.int .i64 a,.int .i64 b] 52)).alloc (.cells #[.int .i64 c,.int .i64 d] 52)).cell? ⟨w.heap.size,1,none⟩=some (.int .i64 b):=by
  rw [World.cell?_alloc_past _ _ _ (by simp)];simp only [World.cell?,g0];rfl
 have f2:((w.alloc (.cells #[.int .i64 a,.int .i64 b] 52)).alloc (.cells #[.int .i64 c,.int .i64 d] 52)).cell? ⟨w.heap.size+1,0,none⟩=some (.int .i64 c):=by
  simp only [World.cell?,g1];rfl
 have f3:((w.alloc (.cells #[.int .i64 a,.int .i64 b] 52)).alloc (.cells #[.int .i64 c,.int .i64 d] 52)).cell? ⟨w.heap.size+1,1,none⟩=some (.int .i64 d):=by
  simp only [World.cell?,g1];rfl
 have f4:∃ q J,((w.alloc (.cells #[.int .i64 a,.int .i64 b] 52)).alloc (.cells #[.int .i64 c,.int .i64 d] 52))=Sort.grow (w.drewN q) J:=⟨0,_,by rw [alloc_eq_grow,alloc_eq_grow,grow_grow];rfl⟩
 generalize ((w.alloc (.cells #[.int .i64 a,.int .i64 b] 52)).alloc (.cells #[.int .i64 c,.int .i64 d] 52))=W2 at f0 f1 f2 f3 f4 |-;refine wp_region_still_tail 10 (by kernel_rfl) (by kernel_rfl) ?_
 simp only [List.take_succ_cons,List.take_zero,List.drop_succ_cons,List.drop_zero];change wpStill _ _ (World.drew W2) _ _ _;have f0':W2.drew.cell? ⟨w.heap.size,0,none⟩=some (.int .i64 a):=f0;have f1':W2.drew.cell? ⟨w.heap.size,1,none⟩=some (.int .i64 b):=f1;have f2':W2.drew.cell? ⟨w.heap.size+1,0,none⟩=some (.int .i64 c):=f2;have f3':W2.drew.cell? ⟨w.heap.size+1,1,none⟩=some (.int .i64 d):=f3;have f4':∃ q J,W2.drew=Sort.grow (w.drewN q) J:=by obtain ⟨q,J,e⟩:=f4;exact ⟨q+1,J,by rw [e];rfl⟩
 iterate 4 still_step
 still_call (Tryz.cmp_walk _ _ _)
 iterate 4 still_step
 still_call (Tryz.cmp_walk _ _ _)
 refine wpStill_nil ?_;change wpList _ _ _ _ _ (World.drew W2);generalize World.drew W2=W at f0' f1' f2' f3' f4' |-;generalize Q:cmpI a c=u1;generalize O:cmpI b d=u2;obtain ⟨ie,q1,q2,q3⟩:∃ ie,Tryz.prog.info? 3=some ie/\ie.zero=some (.int .i64 0)/\ie.size=1:=⟨(Tryz.prog.info? 3).get (by kernel_rfl),(Option.some_get _).symm,by kernel_rfl,by kernel_rfl⟩
 refine wpList_buildSlice rfl 22 3 2 _ rfl #[.int .i64 u1,.int .i64 u2] ie (.int .i64 0) (by kernel_rfl) q1 q2 (by rw [q3];decide) (by rw [q3];decide) (by rw [q3];refine Eq.trans (congrArg _ ?_) (fill2I u1 u2);simp [Act.eval]) ?_
 simp only [Act.put]
 go_wp2_with fail
 have g2:(W.alloc (.cells #[.int .i64 u1,.int .i64 u2] 3)).heap[W.heap.size]?=some (.cells #[.int .i64 u1,.int .i64 u2] 3 (0,0)):=heap_alloc_new W _;refine (Tryz.or_walk u1 u2 W.heap.size 0 2 (W.alloc (.cells #[.int .i64 u1,.int .i64 u2] 3)) (by simp only [World.cell?,g2];rfl) (by simp only [World.cell?,g2];rfl)).mono ?_
 rintro e w' ⟨rfl,rfl⟩
 go_wp2
 go_ret
 obtain ⟨q,J,hq⟩:=f4';exact ⟨by rw [Q,O];rfl,q,_,by rw [hq,alloc_eq_grow,grow_grow]⟩
end Go.Proofs
namespace Go.Sim.M
abbrev TyE:Type:=Fin 1099511627777×Int×Int
def intsE (x:TyE):List Int:=[(x.1.val:Int),x.2.1,x.2.2]
def cmpE (x y:TyE):Int:=(x.1.val:Int) - (y.1.val:Int)
end Go.Sim.M
namespace Go.Proofs
open Go.RowKit Go.Sim Go.Sim.M Go.Sort
set_option maxHeartbeats 1000000 in
def Tryz.walkE (a b c a' b' c' r:Int) (hr:IntKind.i64.wrap (a - a')=r) (W:World):Calls Tryz.prog 147 #[.agg #[.int .i64 a,.int .i64 b,.int .i64 c],.agg #[.int .i64 a',.int .i64 b',.int .i64 c']] W fun e w'=>e=.returned (.int .i64 r)/\∃ q os',w'=Sort.grow (W.drewN q) os':=by
 go_enter Tryz.func147,Tryz.ntmps147
 go_wp2
 go_ret
 subst hr;exact ⟨rfl,0,_,by rw [alloc_eq_grow,alloc_eq_grow,grow_grow];rfl⟩
end Go.Proofs
namespace Go.Sim.M
open Go.RowKit Go.Proofs Go.Sort
def isE:AV->Bool
 | .agg [.int .i64 a,.int .i64 _,.int .i64 _]=>decide (0<=a)&&decide (a<=1099511627776)
 | _=>false
def decE:AV->TyE
 | .agg [.int _ a,.int _ b,.int _ c]=>(Fin.ofNat 1099511627777 a.toNat,b,c)
 | _=>default
noncomputable def srtE (xs:List AV):List AV:=(pdqL cmpE (xs.map decE)).map (encI intsE)
def xBV {x:AV} (h:isE x=true):encI intsE (decE x)=x:=by
 unfold isE at h;split at h
 . rename_i a b c;simp only [Bool.and_eq_true,decide_eq_true_eq] at h;have:a.toNat % 1099511627777=a.toNat:=Nat.mod_eq_of_lt (by omega)
   simp only [decE,encI,intsE,List.map_cons,List.map_nil,Fin.ofNat,this,Int.toNat_of_nonneg h.1]
 . simp at h
def xAt {xs:List AV} (h:xs.all isE=true):(xs.map decE).map (encI intsE)=xs:=by
 rw [List.map_map]
 conv=>rhs;rw [<-List.map_id xs]
 refine List.map_congr_left fun x hx=>?_
 exact xBV (List.all_eq_true.1 h x hx)
def ltE (x y:TyE):ltOf cmpE x y=decide (x.1.val<y.1.val):=by
 unfold ltOf cmpE;by_cases h:x.1.val<y.1.val
 . rw [decide_eq_true h,decide_eq_true (by omega)]
 . rw [decide_eq_false h,decide_eq_false (by omega)]
def swoE:SWO (ltOf cmpE) where
 irrefl x:=by rw [ltE];simp
 trans x y z h1 h2:=by rw [ltE] at *;simp at *;omega
 ntrans x y z h1 h2:=by rw [ltE] at *;simp at *;omega
noncomputable def xtK:List AV->List Box->Option (Bool×AV×List Box)
 | [.osl (.b 0) ver 0 n,.func g []],[⟨ver',3,ty,xs,false,true⟩]=>match Nat.beq g 147&&Nat.beq ty 154 with
  | true=>some (Nat.beq ver ver'&&(Nat.beq n xs.length&&(decide (n<4611686018427387904)&&xs.all isE)),.tuple [],[⟨ver',3,154,srtE xs,false,true⟩])
  | false=>none
 | _,_=>none
def xDZ:OmOk Tryz.prog xIO 146 xtK:=fun Q H r H' h=>by
 unfold xtK at h;split at h
 . rename_i ver n g O ty xs;split at h
   case h_2=>simp at h
   rename_i hg;simp only [Bool.and_eq_true] at hg;obtain rfl:=Nat.eq_of_beq_eq_true hg.1;obtain rfl:=Nat.eq_of_beq_eq_true hg.2;simp only [Option.some.injEq,Prod.mk.injEq,Bool.and_eq_true,decide_eq_true_eq] at h;obtain ⟨⟨h1,h2,h3,h4⟩,rfl,rfl⟩:=h;obtain rfl:=Nat.eq_of_beq_eq_true h1;obtain rfl:=Nat.eq_of_beq_eq_true h2;have q:∃ ti,xH5 Tryz.prog 154=some ti/\ti.sz=3/\ti.agg=true:=by
    have h:(match xH5 Tryz.prog 154 with|some ti=>(ti.sz==3)&&ti.agg|none=>false)=true:=by kernel_rfl
    split at h
    . rename_i ti q;simp only [Bool.and_eq_true,beq_iff_eq] at h;exact ⟨ti,q,h.1,h.2⟩
    . simp at h
   obtain ⟨ti,q,hz,ha⟩:=q;have J:=xmY (P:=Tryz.prog) (Inv:=xIO) Tryz.srl146 3 (by decide) (fun w=>by rw [<-ha];exact xjM q w) (fun w=>by rw [<-hz];exact xdD q w)
    intsE (fun _=>rfl) cmpE swoE 147 rfl (xdT Tryz.func146 rfl (by kernel_rfl)) (xk3 (xdT Tryz.func147 rfl (by kernel_rfl)))
    (fun x y W=>Tryz.walkE _ _ _ _ _ _ (cmpE x y) (by
     have:=x.1.isLt;have:=y.1.isLt;unfold cmpE;exact xba (by omega) (by omega)) W)
    ver 154 rfl (xs.map decE) (by simpa using h3)
   rw [List.length_map,xAt h4] at J;exact J
 . simp at h
end Go.Sim.M
namespace Go.Sim.M
abbrev TyS:Type:=Fin 1099511627777×Int
def intsS (x:TyS):List Int:=[(x.1.val:Int),x.2]
def cmpS (x y:TyS):Int:=(x.1.val:Int) - (y.1.val:Int)
end Go.Sim.M
namespace Go.Proofs
open Go.RowKit Go.Sim Go.Sim.M Go.Sort
set_option maxHeartbeats 1000000 in
def Tryz.walkS (a b a' b' r:Int) (hr:IntKind.i64.wrap (a - a')=r) (W:World):Calls Tryz.prog 113 #[.agg #[.int .i64 a,.int .i64 b],.agg #[.int .i64 a',.int .i64 b']] W fun e w'=>e=.returned (.int .i64 r)/\∃ q os',w'=Sort.grow (W.drewN q) os':=by
 go_enter Tryz.func113,Tryz.ntmps113
 go_wp2
 go_ret
 subst hr;exact ⟨rfl,0,_,by rw [alloc_eq_grow,alloc_eq_grow,grow_grow];rfl⟩
end Go.Proofs
namespace Go.Sim.M
open Go.RowKit Go.Proofs Go.Sort
def isS:AV->Bool
 | .agg [.int .i64 a,.int .i64 _]=>decide (0<=a)&&decide (a<=1099511627776)
 | _=>false
def decS:AV->TyS
 | .agg [.int _ a,.int _ b]=>(Fin.ofNat 1099511627777 a.toNat,b)
 | _=>default
noncomputable def srtS (xs:List AV):List AV:=(pdqL cmpS (xs.map decS)).map (encI intsS)
def xBX {x:AV} (h:isS x=true):encI intsS (decS x)=x:=by
 unfold isS at h;split at h
 . rename_i a b;simp only [Bool.and_eq_true,decide_eq_true_eq] at h;have:a.toNat % 1099511627777=a.toNat:=Nat.mod_eq_of_lt (by omega)
   simp only [decS,encI,intsS,List.map_cons,List.map_nil,Fin.ofNat,this,Int.toNat_of_nonneg h.1]
 . simp at h
def xAv {xs:List AV} (h:xs.all isS=true):(xs.map decS).map (encI intsS)=xs:=by
 rw [List.map_map]
 conv=>rhs;rw [<-List.map_id xs]
 refine List.map_congr_left fun x hx=>?_
 exact xBX (List.all_eq_true.1 h x hx)
def ltS (x y:TyS):ltOf cmpS x y=decide (x.1.val<y.1.val):=by
 unfold ltOf cmpS;by_cases h:x.1.val<y.1.val
 . rw [decide_eq_true h,decide_eq_true (by omega)]
 . rw [decide_eq_false h,decide_eq_false (by omega)]
def swoS:SWO (ltOf cmpS) where
 irrefl x:=by rw [ltS];simp
 trans x y z h1 h2:=by rw [ltS] at *;simp at *;omega
 ntrans x y z h1 h2:=by rw [ltS] at *;simp at *;omega
noncomputable def xtM:List AV->List Box->Option (Bool×AV×List Box)
 | [.osl (.b 0) ver 0 n,.func g []],[⟨ver',2,ty,xs,false,true⟩]=>match Nat.beq g 113&&Nat.beq ty 132 with
  | true=>some (Nat.beq ver ver'&&(Nat.beq n xs.length&&(decide (n<4611686018427387904)&&xs.all isS)),.tuple [],[⟨ver',2,132,srtS xs,false,true⟩])
  | false=>none
 | _,_=>none
def xD0:OmOk Tryz.prog xIO 112 xtM:=fun Q H r H' h=>by
 unfold xtM at h;split at h
 . rename_i ver n g O ty xs;split at h
   case h_2=>simp at h
   rename_i hg;simp only [Bool.and_eq_true] at hg;obtain rfl:=Nat.eq_of_beq_eq_true hg.1;obtain rfl:=Nat.eq_of_beq_eq_true hg.2;simp only [Option.some.injEq,Prod.mk.injEq,Bool.and_eq_true,decide_eq_true_eq] at h;obtain ⟨⟨h1,h2,h3,h4⟩,rfl,rfl⟩:=h;obtain rfl:=Nat.eq_of_beq_eq_true h1;obtain rfl:=Nat.eq_of_beq_eq_true h2;have q:∃ ti,xH5 Tryz.prog 132=some ti/\ti.sz=2/\ti.agg=true:=by
    have h:(match xH5 Tryz.prog 132 with|some ti=>(ti.sz==2)&&ti.agg|none=>false)=true:=by kernel_rfl
    split at h
    . rename_i ti q;simp only [Bool.and_eq_true,beq_iff_eq] at h;exact ⟨ti,q,h.1,h.2⟩
    . simp at h
   obtain ⟨ti,q,hz,ha⟩:=q;have J:=xmY (P:=Tryz.prog) (Inv:=xIO) Tryz.srl112 2 (by decide) (fun w=>by rw [<-ha];exact xjM q w) (fun w=>by rw [<-hz];exact xdD q w)
    intsS (fun _=>rfl) cmpS swoS 113 rfl (xdT Tryz.func112 rfl (by kernel_rfl)) (xk3 (xdT Tryz.func113 rfl (by kernel_rfl)))
    (fun x y W=>Tryz.walkS _ _ _ _ (cmpS x y) (by
     have:=x.1.isLt;have:=y.1.isLt;unfold cmpS;exact xba (by omega) (by omega)) W)
    ver 132 rfl (xs.map decS) (by simpa using h3)
   rw [List.length_map,xAv h4] at J;exact J
 . simp at h
end Go.Sim.M
namespace Go.Sim.M
abbrev TyP:Type:=Int×Int
def intsP (x:TyP):List Int:=[x.1,x.2]
def cmpP (x y:TyP):Int:=orI (cmpI x.1 y.1) (cmpI x.2 y.2)
end Go.Sim.M
namespace Go.Sim.M
open Go.RowKit Go.Proofs Go.Sort
def isP:AV->Bool
 | .agg [.int .i64 _,.int .i64 _]=>true
 | _=>false
def decP:AV->TyP
 | .agg [.int _ a,.int _ b]=>(a,b)
 | _=>default
noncomputable def srtP (xs:List AV):List AV:=(pdqL cmpP (xs.map decP)).map (encI intsP)
def xBW {x:AV} (h:isP x=true):encI intsP (decP x)=x:=by
 unfold isP at h;split at h
 . rfl
 . simp at h
def xAu {xs:List AV} (h:xs.all isP=true):(xs.map decP).map (encI intsP)=xs:=by
 rw [List.map_map]
 conv=>rhs;rw [<-List.map_id xs]
 refine List.map_congr_left fun x hx=>?_
 exact xBW (List.all_eq_true.1 h x hx)
def ltP (x y:TyP):ltOf cmpP x y=decide (x.1<y.1\/x.1=y.1/\x.2<y.2):=by
 unfold ltOf cmpP orI cmpI;by_cases h:x.1<y.1\/x.1=y.1/\x.2<y.2
 . rw [decide_eq_true h];simp only [decide_eq_true_eq];rcases h with h|⟨h,h'⟩
   . simp [h]
   . simp [h,h']
 . rw [decide_eq_false h];simp only [decide_eq_false_iff_not];have h1:¬ x.1<y.1:=fun e=>h (.inl e)
   by_cases h2:y.1<x.1
   . simp [h1,h2]
   . have h3:x.1=y.1:=by omega
     have h4:¬ x.2<y.2:=fun e=>h (.inr ⟨h3,e⟩)
     by_cases h5:y.2<x.2
     . simp [h1,h2,h4,h5]
     . simp [h1,h2,h4,h5]
def swoP:SWO (ltOf cmpP) where
 irrefl x:=by rw [ltP];simp
 trans x y z h1 h2:=by rw [ltP] at *;simp only [decide_eq_true_eq] at *;omega
 ntrans x y z h1 h2:=by rw [ltP] at *;simp only [decide_eq_true_eq,decide_eq_false_iff_not] at *;omega
noncomputable def xtL:List AV->List Box->Option (Bool×AV×List Box)
 | [.osl (.b 0) ver 0 n,.func g []],[⟨ver',2,ty,xs,false,true⟩]=>match Nat.beq g 108&&Nat.beq ty 52 with
  | true=>some (Nat.beq ver ver'&&(Nat.beq n xs.length&&(decide (n<4611686018427387904)&&xs.all isP)),.tuple [],[⟨ver',2,52,srtP xs,false,true⟩])
  | false=>none
 | _,_=>none
def xDx:OmOk Tryz.prog xIO 107 xtL:=fun Q H r H' h=>by
 unfold xtL at h;split at h
 . rename_i ver n g O ty xs;split at h
   case h_2=>simp at h
   rename_i hg;simp only [Bool.and_eq_true] at hg;obtain rfl:=Nat.eq_of_beq_eq_true hg.1;obtain rfl:=Nat.eq_of_beq_eq_true hg.2;simp only [Option.some.injEq,Prod.mk.injEq,Bool.and_eq_true,decide_eq_true_eq] at h;obtain ⟨⟨h1,h2,h3,h4⟩,rfl,rfl⟩:=h;obtain rfl:=Nat.eq_of_beq_eq_true h1;obtain rfl:=Nat.eq_of_beq_eq_true h2;have q:∃ ti,xH5 Tryz.prog 52=some ti/\ti.sz=2/\ti.agg=true:=by
    have h:(match xH5 Tryz.prog 52 with|some ti=>(ti.sz==2)&&ti.agg|none=>false)=true:=by kernel_rfl
    split at h
    . rename_i ti q;simp only [Bool.and_eq_true,beq_iff_eq] at h;exact ⟨ti,q,h.1,h.2⟩
    . simp at h
   obtain ⟨ti,q,hz,ha⟩:=q;have J:=xmY (P:=Tryz.prog) (Inv:=xIO) Tryz.srl107 2 (by decide) (fun w=>by rw [<-ha];exact xjM q w) (fun w=>by rw [<-hz];exact xdD q w)
    intsP (fun _=>rfl) cmpP swoP 108 rfl (xdT Tryz.func107 rfl (by kernel_rfl)) (xk3 (xdT Tryz.func108 rfl (by kernel_rfl)))
    (fun x y W=>Tryz.levels2_walk _ _ _ _ W)
    ver 52 rfl (xs.map decP) (by simpa using h3)
   rw [List.length_map,xAu h4] at J;exact J
 . simp at h
end Go.Sim.M
namespace Go.Sim.M
open Go.RowKit Go.Proofs
noncomputable def E1:Env:=((xCT.E.withM 112 xtM).withM 146 xtK).withM 107 xtL
def xCN:xH6 Tryz.prog xIO E1:=((xCT.ok.withM xD0).withM xDZ).withM xDx
noncomputable def xFW:EO:=EO.mk E1 xCN
end Go.Sim.M
namespace Go.Sim.M
open Go.IntKind (i64 u64 u8)
open Go.RowKit Go.Proofs
def xhM:Env:=E1.fn 29 1 (lsOf []) (xIs [])
def xs5:xH6 P0 (xIO.at 1) xhM:=xCN.fn
def xqS:LoOk P0 (xIO.at xhM.pin) xhM (Tryz.f114.body.getD .skip):=xhX (by kernel_rfl)
def xmx {T:Type} (k:Nat) (a n:Int) (b:LA) (δ:T) (κ:Bool×(Nat×LA)×(Nat×LA)->T):T:=br (rmB k b 1 16) (κ (false,(0,[]),(k+1,b++[AV.agg [AV.int .i64 a,AV.int .i64 n]]))) δ
def xoT {T:Type} (k:Nat) (b n:Int) (a:LA) (δ:T) (κ:Bool×(Nat×LA)×(Nat×LA)->T):T:=br (decide ((↑k:Int)>0)) (br (decide (0<=i64.wrap ((↑k:Int) - 1))&&decide (i64.wrap ((↑k:Int) - 1)<(↑k:Int))) (br (decide (0+(i64.wrap ((↑k:Int) - 1)).toNat<a.length)&&xH4 (Sh.int .i64) ((a.getD (0+(i64.wrap ((↑k:Int) - 1)).toNat) .top).cells.getD 1 .top)) (br (((a.getD (0+(i64.wrap ((↑k:Int) - 1)).toNat) .top).cells.getD 1 .top).toInt==n) (κ (true,(k,a),(0,[]))) (xmx k b n a δ κ)) δ) δ) (xmx k b n a δ κ)
def xbB (k:Nat) (a n:Int) (b:LA):=xoT k a n b none some
def xwU (k:Nat) (a n:Int) (xs:LA):Enc (fun (p:Bool×(Nat×LA)×(Nat×LA))=>((br p.1 ((AV.osl 0 0 0 p.2.1.1,([⟨0,2,132,p.2.1.2,false,true⟩]:List Box))) ((AV.osl 0 1 0 p.2.2.1,([⟨1,2,132,p.2.2.2,false,true⟩]:List Box)))):(AV×List Box))) (xbB k a n xs) (XFM P0 xhM Tryz.f114 (Tryz.f114.body.getD .skip) [AV.osl (0:Id) 0 0 k,AV.int .i64 a,AV.int .i64 n] [{ ver:=0,sz:=2,ty:=(132:TypeId),xs:=xs,frz:=false,pm:=true }]):=by
 have h:XFM P0 xhM Tryz.f114 (Tryz.f114.body.getD .skip) [AV.osl (0:Id) 0 0 k,AV.int .i64 a,AV.int .i64 n] [{ ver:=0,sz:=2,ty:=(132:TypeId),xs:=xs,frz:=false,pm:=true }]=xoT k a n xs none (fun (p:Bool×(Nat×LA)×(Nat×LA))=>some ((br p.1 ((AV.osl 0 0 0 p.2.1.1,([⟨0,2,132,p.2.1.2,false,true⟩]:List Box))) ((AV.osl 0 1 0 p.2.2.1,([⟨1,2,132,p.2.2.2,false,true⟩]:List Box)))):(AV×List Box))):=by kernel_rfl
 rw [h];unfold xbB xoT xmx;repeat' (first|refine Enc.br ?_ ?_|exact Enc.none|exact Enc.some rfl)
def xwT:LA->List Box->Option (Bool×AV×List Box):=omOf (xIQ (sEq (xI0 0 0 0)) (xIQ (sEq (pInt .i64)) (xIQ (sEq (pInt .i64)) xIS))) (xIP (xI3 0 2 (132:TypeId) false true xIT) xIR) fun (k,(a,(n,_))) (b,_)=>((xbB k a n b).isSome,(AV.osl 0 1 0 (br ((xbB k a n b).getD (false,(0,[]),(0,[]))).1 ((xbB k a n b).getD (false,(0,[]),(0,[]))).2.1.1 ((xbB k a n b).getD (false,(0,[]),(0,[]))).2.2.1),([⟨1,2,132,(br ((xbB k a n b).getD (false,(0,[]),(0,[]))).1 ((xbB k a n b).getD (false,(0,[]),(0,[]))).2.1.2 ((xbB k a n b).getD (false,(0,[]),(0,[]))).2.2.2),false,true⟩]:List Box)))
def xwS:OmOk P0 xIO 114 (xwT):=xjK fun e f j i g=>by
 obtain ⟨k,⟨b,⟨n,_⟩⟩⟩:=e;obtain ⟨h,_⟩:=f;obtain ⟨c,a⟩:=Prod.mk.inj g;have hx:=xwU _ _ _ _ _ (xeI (d:=(false,(0,[]),(0,[]))) c);revert hx a;generalize ((xbB k b n h).getD (false,(0,[]),(0,[])))=p;intro a hx;obtain ⟨rfl,rfl⟩:=Prod.mk.inj a;obtain ⟨t,⟨l,m⟩,o,q⟩:=p;have hg:GoodM P0 xIO 114 _ _ _ _:=xmt (p:=xhM.pin) (xms xIf (xIg P0 _) rfl xs5 rfl Tryz.func114 rfl (by kernel_rfl) xqS hx)
 cases t
 . exact hg
 . exact GoodM.bump1 rfl (by decide) hg
def xp7:EO:=xFW.wM xwS
def xkn {T:Type} (d:LA) (e:Int) (b:Nat) (c:Int) (a:LA) (δ:T) (κl:(Nat×Int×LA)->T) (κr:(Nat×LA)->T):T:=br (decide (c<e)) (br (ixI d c) (br (ixT d c 3 [Sh.int .i64,Sh.int .i64,Sh.int .i64] 0) (br (xf0 (gC d c 0).toInt (gC d c 1).toInt) (br (rmB b a 2 16) (κl (b+2,i64.wrap (c+1),a++[AV.agg [AV.int .i64 (gC d c 0).toInt,AV.int .i64 (gC d c 2).toInt],AV.agg [AV.int .i64 (gC d c 1).toInt,AV.int .i64 (i64.wrap (0 - (gC d c 2).toInt))]])) δ) (κl (b,i64.wrap (c+1),a))) δ) δ) (κr (b,a))
def xeN (c:LA) (d:Int):StT (Nat×Int×LA) (Nat×LA):=fun (b,e,a)=>xkn c d b e a none inL inR
def xhE:=xp7.l 106 0 [] [] Tryz.f77 0 lk0 [3,10,11,12] [3] [(3,2,132)] (q4 (xI0 0 0 0) (qL 3) qI qI) (q1 (qB 0 2 132 xIT)) (fun (b,c,d,e,_) (a,_)=>(xeN c d,(b,e,a),fun p=>(.leaf (.exit 0) [AV.osl 0 0 0 p.1] [bF 0 2 132 p.2]))) (0,[]) fun (_,c,d,_,_) _ (b,e,a)=>(((b,c,d,e,()),(a,())),xkn c d b e a none)
def xpa (i:Int) (a:LA):=decide (0+i.toNat<a.length)
def xp0 {T:Type} (b e:Nat) (d i:Int) (a c:LA) (δ:T) (κl:(Int×Int×LA×LA)->T) (κr:(Int×Int×LA×LA)->T):T:=br (decide (i<(↑b:Int))) (br (decide (0<=i)&&decide (i<(↑b:Int))) (br (xpa i a&&xH4 (Sh.int .i64) ((a.getD (0+i.toNat) .top).cells.getD 0 .top)) (br (((a.getD (0+i.toNat) .top).cells.getD 0 .top).toInt==0) (br (decide (0<=i)&&decide (i<(↑b:Int))) (br (xpa i a&&xH4 (Sh.int .i64) ((a.getD (0+i.toNat) .top).cells.getD 1 .top)) (κl (i64.wrap (d+((a.getD (0+i.toNat) .top).cells.getD 1 .top).toInt),i64.wrap (i+1),a,c)) δ) δ) (κr (d,i,a,c))) δ) δ) (κr (d,i,a,c))
def xh3 (b d:Nat):StT (Int×Int×LA×LA) (Int×Int×LA×LA):=fun (e,i,a,c)=>xp0 b d e i a c none inL inR
def xjQ:=xp7.l 106 0 [] [(3,xhE.lp)] Tryz.f77 1 lk0 [3,6,7,8] [3,6,7,8] [(3,2,132),(6,2,132)] (q4 (xI0 0 0 0) (xI0 1 0 0) qI qI) (q2 (qB 0 2 132 xIT) (qB 0 2 132 xIT)) (fun (a,c,e,i,_) (b,d,_)=>(xh3 a c,(e,i,b,d),fun p=>(.leaf (.exit 2) [AV.osl 0 0 0 a,AV.osl 1 0 0 c,AV.int .i64 p.1,AV.int .i64 p.2.1] [bF 0 2 132 p.2.2.1,bF 0 2 132 p.2.2.2]))) (0,0,[],[]) fun (a,c,_,_,_) _ (e,i,b,d)=>(((a,c,e,i,()),(b,d,())),xp0 a c e i b d none)
def xhG (i:Int) (a:LA):=decide (0+i.toNat<a.length)
def xh7 {T:Type} (b f:Nat) (e d i:Int) (a c:LA) (δ:T) (κl:(Int×Int×LA×LA)->T) (κr:(Int×Int×LA×LA)->T):T:=br (decide (i<(↑b:Int))) (br (decide (0<=i)&&decide (i<(↑b:Int))) (br (xhG i a&&xH4 (Sh.int .i64) ((a.getD (0+i.toNat) .top).cells.getD 0 .top)) (br (((a.getD (0+i.toNat) .top).cells.getD 0 .top).toInt==e) (br (decide (0<=i)&&decide (i<(↑b:Int))) (br (xhG i a&&xH4 (Sh.int .i64) ((a.getD (0+i.toNat) .top).cells.getD 1 .top)) (κl (i64.wrap (d+((a.getD (0+i.toNat) .top).cells.getD 1 .top).toInt),i64.wrap (i+1),a,c)) δ) δ) (κr (d,i,a,c))) δ) δ) (κr (d,i,a,c))
def xdP (b d:Nat) (e:Int):StT (Int×Int×LA×LA) (Int×Int×LA×LA):=fun (f,i,a,c)=>xh7 b d e f i a c none inL inR
def xjR:=xp7.l 106 0 [] [(3,xhE.lp),(11,xjQ.lp)] Tryz.f77 3 lk0 [3,6,7,8,9] [3,6,7,8,9] [(3,2,132),(6,2,132)] (q5 (xI0 0 0 0) (xI0 1 0 0) qI qI qI) (q2 (qB 0 2 132 xIT) (qB 0 2 132 xIT)) (fun (a,c,f,i,e,_) (b,d,_)=>(xdP a c e,(f,i,b,d),fun p=>(.leaf (.exit 6) [AV.osl 0 0 0 a,AV.osl 1 0 0 c,AV.int .i64 p.1,AV.int .i64 p.2.1,AV.int .i64 e] [bF 0 2 132 p.2.2.1,bF 0 2 132 p.2.2.2]))) (0,0,[],[]) fun (a,c,_,_,e,_) _ (f,i,b,d)=>(((a,c,f,i,e,()),(b,d,())),xh7 a c e f i b d none)
def xgV (i:Int) (a:LA):=decide (0+i.toNat<a.length)&&xH4 (Sh.int .i64) ((a.getD (0+i.toNat) .top).cells.getD 0 .top)
def xfo (i:Int) (a:LA):=((a.getD (0+i.toNat) .top).cells.getD 0 .top).toInt
def xgW (b d:Nat) (e i:Int) (a c:LA):=Iter (xdP b d (xfo i a)) (e,i,a,c)
def xd2 (b d:Nat) (e i:Int) (a c:LA):=(xgW b d e i a c).getD (0,0,[],[])
def xhF (b c:Nat) (e i:Int) (a d:LA):=xbB c (xfo i a) ((xd2 b c e i a d).fst) (((xd2 b c e i a d).snd).snd).snd
def xdy (b d:Nat) (e i:Int) (a c:LA):=(xhF b d e i a c).getD (false,(0,[]),0,[])
def xh6 {T:Type} (b d:Nat) (e i:Int) (a c:LA) (δ:T) (κl:(Nat×Int×Int×LA×LA)->T) (κr:(Nat×LA)->T):T:=br (decide (i<(↑b:Int))) (br (decide (0<=i)&&decide (i<(↑b:Int))) (br (xgV i a) (br (decide (xfo i a<1099511627776)) (br (decide (0<=i)&&decide (i<(↑b:Int))) (br (xgV i a) (br ((xgW b d e i a c).isSome) (br ((xhF b d e i a c).isSome) (κl (br ((xdy b d e i a c).fst) (((xdy b d e i a c).snd).fst).fst (((xdy b d e i a c).snd).snd).fst,((xd2 b d e i a c).fst),((xd2 b d e i a c).snd).fst,(((xd2 b d e i a c).snd).snd).fst,br ((xdy b d e i a c).fst) (((xdy b d e i a c).snd).fst).snd (((xdy b d e i a c).snd).snd).snd)) δ) δ) δ) δ) (κr (d,c))) δ) δ) (κr (d,c))
def xeO (b:Nat):StT (Nat×Int×Int×LA×LA) (Nat×LA):=fun (d,e,i,a,c)=>xh6 b d e i a c none inL inR
def xpb:=xp7.l 106 0 [] [(3,xhE.lp),(11,xjQ.lp),(17,xjR.lp)] Tryz.f77 2 (lk1 xjR.ok) [3,6,7,8] [6] [(3,2,132),(6,2,132)] (q4 (xI0 0 0 0) (xI0 1 0 0) qI qI) (q2 (qB 0 2 132 xIT) (qB 0 2 132 xIT)) (fun (b,d,e,i,_) (a,c,_)=>(xeO b,(d,e,i,a,c),fun p=>(.leaf (.exit 4) [AV.osl 0 0 0 p.1] [bF 0 2 132 p.2]))) (0,[]) fun (b,_,_,_,_) _ (d,e,i,a,c)=>(((b,d,e,i,()),(a,c,())),xh6 b d e i a c none)
def xeX (l:LA):=(Iter (xeN l (↑l.length:Int)) (0,0,[])).getD (0,[])
def xn8 (l:LA):=Iter (xh3 ((xeX l).fst) 0) (0,0,srtS ((xeX l).snd),[])
def xhH (l:LA):=(xn8 l).getD (0,0,[],[])
def xoR (l:LA):=xbB 0 0 ((xhH l).fst) (((xhH l).snd).snd).snd
def xg1 (l:LA):=(xoR l).getD (false,(0,[]),0,[])
def xoQ (l:LA):=Iter (xeO ((xeX l).fst)) (br ((xg1 l).fst) (((xg1 l).snd).fst).fst (((xg1 l).snd).snd).fst,((xhH l).fst),((xhH l).snd).fst,(((xhH l).snd).snd).fst,br ((xg1 l).fst) (((xg1 l).snd).fst).snd (((xg1 l).snd).snd).snd)
def xke (l:LA):=(xoQ l).getD (0,[])
def xpK {T:Type} (l:LA) (δ:T) (κ:LA->T):T:=br ((Iter (xeN l (↑l.length:Int)) (0,0,[])).isSome) (br (((xeX l).fst).beq ((xeX l).snd).length&&(decide (((xeX l).fst)<4611686018427387904)&&((xeX l).snd).all isS)) (br ((xn8 l).isSome) (br ((xoR l).isSome) (br ((xoQ l).isSome) (br (decide (0+((xke l).fst)<=((xke l).snd).length)&&true) (κ (List.take ((xke l).fst) (List.drop 0 ((xke l).snd)))) δ) δ) δ) δ) δ) δ
def xaL (l:LA):=xpK l none some
def xzx:EO:=xp7.f Tryz.func77 106 0 [] [(3,xhE.lp),(11,xjQ.lp),(17,xjR.lp),(15,xpb.lp)] (lks (lkC xhE.ok (lkC xjQ.ok (lkC xpb.ok (lkC xjR.ok lkN))))) (u1 (uL 3)) (fun (l,_) _=>xpK l) (fun _ p=>AV.list 2 p) []
def xfa {T:Type} (d:LA) (e:Int) (c:Nat) (b:Int) (a:LA) (δ:T) (κl:(Nat×Int×LA)->T) (κr:(Nat×LA)->T):T:=br (decide (b<e)) (br (ixI d b) (br (ixT d b 2 [Sh.int .i64,Sh.int .i64] 0) (br (rmB c a 1 24) (κl (c+1,i64.wrap (b+1),a++[AV.agg [AV.int .i64 (gC d b 0).toInt,AV.int .i64 (gC d b 1).toInt,AV.int .i64 1]])) δ) δ) δ) (κr (c,a))
def xcf (c:LA) (d:Int):StT (Nat×Int×LA) (Nat×LA):=fun (b,e,a)=>xfa c d b e a none inL inR
def xj6:=xzx.l 20 0 [] [] Tryz.f116 0 lk0 [3,6,7,8] [3] [(3,3,100)] (q4 (xI0 0 0 0) (qL 2) qI qI) (q1 (qB 0 3 100 xIT)) (fun (b,c,d,e,_) (a,_)=>(xcf c d,(b,e,a),fun p=>(.leaf (.exit 0) [AV.osl 0 0 0 p.1] [bF 0 3 100 p.2]))) (0,[]) fun (_,c,d,_,_) _ (b,e,a)=>(((b,c,d,e,()),(a,())),xfa c d b e a none)
def xeB (l:LA):=(Iter (xcf l (↑l.length:Int)) (0,0,[])).getD (0,[])
def xif (l:LA):=xaL (List.take ((xeB l).fst) (List.drop 0 ((xeB l).snd)))
def xiY {T:Type} (l:LA) (δ:T) (κ:LA->T):T:=br ((Iter (xcf l (↑l.length:Int)) (0,0,[])).isSome) (br (decide (0+((xeB l).fst)<=((xeB l).snd).length)&&true) (br ((xif l).isSome) (κ ((xif l).getD [])) δ) δ) δ
def xeG (l:LA):=xiY l none some
def xoV:EO:=xzx.f Tryz.func116 20 0 [] [(3,xj6.lp)] (lk1 xj6.ok) (u1 (uL 2)) (fun (l,_) _=>xiY l) (fun _ p=>AV.list 2 p) []
def xiF {T:Type} (o n:Int) (e f:Nat) (k p m j:Int) (h l i g a:Nat) (b:LA) (d:Nat) (c:LA) (δ:T) (κl:(Int×Int×Nat×Nat×Nat×Nat×Nat×LA×Nat×LA)->T) (κr:(Int×Nat×Nat×Nat×Nat×LA×Nat×LA×Nat)->T):T:=br (decide (m<p)) (br (a==e) (br (a==e) (br (a==e&&(decide (f<b.length)&&xH4 (Sh.int .i64) ((b.getD f .top).cells.getD 0 .top))) (br (d==g&&(rmB i c 1 16)) (κl (i64.wrap (m+1),j,h,l,i+1,g+1,a,List.take h b,g+1,c++[AV.agg [AV.int .i64 ((b.getD f .top).cells.getD 0 .top).toInt,AV.int .i64 o]])) δ) δ) δ) δ) (κr (j,l,h,g,i,b,a,c,d))
def xdb (m n:Int) (e f:Nat) (k o:Int):StT (Int×Int×Nat×Nat×Nat×Nat×Nat×LA×Nat×LA) (Int×Nat×Nat×Nat×Nat×LA×Nat×LA×Nat):=fun (p,g,h,i,j,l,a,b,c,d)=>xiF m n e f k o p g h i j l a b c d none inL inR
def xhW:=xoV.l 71 5 [] [] Tryz.f106 1 lk0 [0,1,2,3,4,7,8,37,38] [0,1,2,3,4,7,8] [(3,0,0)] (q9 qI qI (xI1 0 0 0 0) (xI1 1 0 0 0) (xI1 2 0 0 0) (pOwnV 3 0) qI qI qI) (q5 (qB 0 1 3 (q1 qI)) (xI3 0 1 126 false false (q1 (pOslV 3 0))) (xI3 0 1 64 false false (q1 (pOslV 4 0))) (pBoxV 2 128 false true xIT) (pBoxV 2 52 false true xIT)) (fun (o,n,_,_,_,(e,f),k,q,r,_) ((g,_),((h,i),_),((j,m),_),(a,b),(c,d),_)=>(xdb o n e f k q,(r,g,i,h,m,j,a,b,c,d),fun p=>(.leaf (.exit 2) [AV.int .i64 o,AV.int .i64 n,AV.own 0 0 0 0,AV.own 1 0 0 0,AV.own 2 0 0 0,AV.own 3 e f 0,AV.int .i64 k] [bF 0 1 3 [AV.int .i64 p.1],⟨0,1,126,[AV.osl 3 p.2.1 0 p.2.2.1],false,false⟩,⟨0,1,64,[AV.osl 4 p.2.2.2.1 0 p.2.2.2.2.1],false,false⟩,bF p.2.2.2.2.2.2.1 2 128 p.2.2.2.2.2.1,bF p.2.2.2.2.2.2.2.2 2 52 p.2.2.2.2.2.2.2.1]))) (0,0,0,0,0,[],0,[],0) fun (o,n,_,_,_,(e,f),k,q,_,_) _ (r,g,i,h,m,j,a,b,c,d)=>(((o,n,(),(),(),(e,f),k,q,r,()),((g,()),((h,i),()),((j,m),()),(a,b),(c,d),())),xiF o n e f k q r g i h m j a b c d none)
def xbb (a:Nat):Nat:=0+(i64.wrap ((↑a:Int) - 1)).toNat
def xdC (n b:Int) (c d:Nat) (a:LA):Int:=if i64.wrap (b - n)<((a.getD (xbb c) .top).cells.getD 1 .top).toInt then i64.wrap (b - n) else ((a.getD (xbb c) .top).cells.getD 1 .top).toInt
def xhf (j n d:Int) (c g h i a:Nat) (b:LA) (e:Nat) (f:LA):=Iter (xdb j n g (xbb c) (xdC n d c a b) (xdC n d c a b)) (0,d,c,g,h,i,a,List.take c b,e,f)
def xaJ (j n e:Int) (f g h i a:Nat) (b:LA) (c:Nat) (d:LA):=(xhf j n e f g h i a b c d).getD (0,0,0,0,0,[],0,[],0)
def xeK (j n e:Int) (f g h i a:Nat) (b:LA) (c:Nat) (d:LA):=i64.wrap ((↑((((xaJ j n e f g h i a b c d).snd).snd).fst):Int) - 1)
def xda (j n f:Int) (g e h i a:Nat) (b:LA) (c:Nat) (d:LA):=(((((((xaJ j n f g e h i a b c d).snd).snd).snd).snd).snd).snd).fst==e
def xeJ (j n f:Int) (e g h i a:Nat) (b:LA) (c:Nat) (d:LA):=((((((((xaJ j n f e g h i a b c d).snd).snd).snd).snd).snd).fst).getD (xbb e) .top).cells
def xdL (j n f:Int) (e g h i a:Nat) (b:LA) (c:Nat) (d:LA):=(((((((xaJ j n f e g h i a b c d).snd).snd).snd).snd).snd).fst).set (xbb e) (AV.agg (List.take 1 (xeJ j n f e g h i a b c d)++[AV.int .i64 (i64.wrap (((xeJ j n f e g h i a b c d).getD 1 .top).toInt - xdC n f e a b))]++List.drop 2 (xeJ j n f e g h i a b c d)))
def xfe {T:Type} (j n g:Int) (f e h i a:Nat) (b:LA) (c:Nat) (d:LA) (δ:T) (κl:(Int×Nat×Nat×Nat×Nat×Nat×LA×Nat×LA)->T) (κr:(Int×Nat×Nat×Nat×Nat×LA×Nat×LA×Nat)->T):T:=br (decide (g>n)) (br (a==e) (br (a==e&&(decide (0<=i64.wrap ((↑f:Int) - 1))&&decide (i64.wrap ((↑f:Int) - 1)<(↑f:Int)))) (br (a==e) (br (a==e) (br (a==e&&(decide (xbb f<b.length)&&xH4 (Sh.int .i64) ((b.getD (xbb f) .top).cells.getD 1 .top))) (br ((xhf j n g f e h i a b c d).isSome) (br (xda j n g f e h i a b c d) (br (xda j n g f e h i a b c d) (br (xda j n g f e h i a b c d&&((decide (xbb f<(((((((xaJ j n g f e h i a b c d).snd).snd).snd).snd).snd).fst).length))&&xH4 (Sh.int .i64) ((xeJ j n g f e h i a b c d).getD 1 .top))) (br (xda j n g f e h i a b c d) (br (xda j n g f e h i a b c d) (br (xda j n g f e h i a b c d&&(decide (xbb f<(((((((xaJ j n g f e h i a b c d).snd).snd).snd).snd).snd).fst).length))) (br (e==e) (br (e==e) (br (e==e&&(decide (xbb f<(xdL j n g f e h i a b c d).length)&&xH4 (Sh.int .i64) (((xdL j n g f e h i a b c d).getD (xbb f) .top).cells.getD 1 .top))) (br ((((xdL j n g f e h i a b c d).getD (xbb f) .top).cells.getD 1 .top).toInt==0) (br (e==(((xaJ j n g f e h i a b c d).snd).fst)) (br (e==(((xaJ j n g f e h i a b c d).snd).fst)&&(decide (0<=xeK j n g f e h i a b c d)&&decide (xeK j n g f e h i a b c d<=(↑((((xaJ j n g f e h i a b c d).snd).snd).fst):Int))&&true)) (κl (i64.wrap ((xaJ j n g f e h i a b c d).fst - xdC n g f a b),(xeK j n g f e h i a b c d).toNat - 0,(((xaJ j n g f e h i a b c d).snd).fst),(((((xaJ j n g f e h i a b c d).snd).snd).snd).snd).fst,((((xaJ j n g f e h i a b c d).snd).snd).snd).fst,e,List.take ((xeK j n g f e h i a b c d).toNat - 0) (xdL j n g f e h i a b c d),((((((((xaJ j n g f e h i a b c d).snd).snd).snd).snd).snd).snd).snd).snd,((((((((xaJ j n g f e h i a b c d).snd).snd).snd).snd).snd).snd).snd).fst)) δ) δ) (κl (i64.wrap ((xaJ j n g f e h i a b c d).fst - xdC n g f a b),((((xaJ j n g f e h i a b c d).snd).snd).fst),(((xaJ j n g f e h i a b c d).snd).fst),(((((xaJ j n g f e h i a b c d).snd).snd).snd).snd).fst,((((xaJ j n g f e h i a b c d).snd).snd).snd).fst,e,List.take ((((xaJ j n g f e h i a b c d).snd).snd).fst) (xdL j n g f e h i a b c d),((((((((xaJ j n g f e h i a b c d).snd).snd).snd).snd).snd).snd).snd).snd,((((((((xaJ j n g f e h i a b c d).snd).snd).snd).snd).snd).snd).snd).fst))) δ) δ) δ) δ) δ) δ) δ) δ) δ) δ) δ) δ) δ) δ) δ) (κr (g,e,f,i,h,b,a,d,c))
def xcs (j n:Int):StT (Int×Nat×Nat×Nat×Nat×Nat×LA×Nat×LA) (Int×Nat×Nat×Nat×Nat×LA×Nat×LA×Nat):=fun (e,f,g,h,i,a,b,c,d)=>xfe j n e f g h i a b c d none inL inR
def xnL:=xoV.l 71 5 [] [(7,xhW.lp)] Tryz.f106 0 (lk1 xhW.ok) [0,1,2,3,4] [] [(3,0,0)] (q5 qI qI (xI1 0 0 0 0) (xI1 1 0 0 0) (xI1 2 0 0 0)) (q5 (qB 0 1 3 (q1 qI)) (xI3 0 1 126 false false (q1 (pOslV 3 0))) (xI3 0 1 64 false false (q1 (pOslV 4 0))) (pBoxV 2 128 false true xIT) (pBoxV 2 52 false true xIT)) (fun (j,n,_,_,_,_) ((e,_),((f,g),_),((h,i),_),(a,b),(c,d),_)=>(xcs j n,(e,g,f,i,h,a,b,c,d),fun p=>(.leaf (.exit 0) [] [bF 0 1 3 [AV.int .i64 p.1],⟨0,1,126,[AV.osl 3 p.2.1 0 p.2.2.1],false,false⟩,⟨0,1,64,[AV.osl 4 p.2.2.2.1 0 p.2.2.2.2.1],false,false⟩,bF p.2.2.2.2.2.2.1 2 128 p.2.2.2.2.2.1,bF p.2.2.2.2.2.2.2.2 2 52 p.2.2.2.2.2.2.2.1]))) (0,0,0,0,0,[],0,[],0) fun (j,n,_,_,_,_) _ (e,g,f,i,h,a,b,c,d)=>(((j,n,(),(),(),()),((e,()),((f,g),()),((h,i),()),(a,b),(c,d),())),xfe j n e g f i h a b c d none)
def xgj:Env:=xoV.E.fn 71 5 (lsOf []) (xIs [(7,xhW.lp),(3,xnL.lp)])
def xrW:xH6 P0 (xIO.at 5) xgj:=xoV.ok.fn
def xp5:LoOk P0 (xIO.at xgj.pin) xgj (Tryz.f106.body.getD .skip):=xkw (ls:=[xIa Tryz.f106 0,xIa Tryz.f106 1]) (by kernel_rfl) (lkC xnL.ok (lkC xhW.ok lkN))
def xjI (a n h:Int) (b c:Nat) (d e:LA):=Iter (xcs a n) (n,b+1,1,c,0,1,List.take (b+1) (d++[AV.agg [AV.int .i64 a,AV.int .i64 (i64.wrap (n - h))]]),0,e)
def xjJ (a n h:Int) (b c:Nat) (d e:LA):=Iter (xcs a n) (h,b,0,c,0,0,List.take b d,0,e)
def xch (a n h:Int) (b c:Nat) (d e:LA):=(xjI a n h b c d e).getD (0,0,0,0,0,[],0,[],0)
def xci (a n h:Int) (b c:Nat) (d e:LA):=(xjJ a n h b c d e).getD (0,0,0,0,0,[],0,[],0)
def xi9 {T:Type} (a n h:Int) (b d:Nat) (c e:LA) (δ:T) (κ:Int×Nat×Nat×Nat×Nat×LA×Nat×LA×Nat->T):T:=br (decide (n>h)) (br (rmB b c 1 16) (br ((xjI a n h b d c e).isSome) (κ ((xch a n h b d c e).fst,((xch a n h b d c e).snd).fst,(((xch a n h b d c e).snd).snd).fst,((((xch a n h b d c e).snd).snd).snd).fst,(((((xch a n h b d c e).snd).snd).snd).snd).fst,((((((xch a n h b d c e).snd).snd).snd).snd).snd).fst,(((((((xch a n h b d c e).snd).snd).snd).snd).snd).snd).fst,((((((((xch a n h b d c e).snd).snd).snd).snd).snd).snd).snd).fst,((((((((xch a n h b d c e).snd).snd).snd).snd).snd).snd).snd).snd)) δ) δ) (br ((xjJ a n h b d c e).isSome) (κ ((xci a n h b d c e).fst,((xci a n h b d c e).snd).fst,(((xci a n h b d c e).snd).snd).fst,((((xci a n h b d c e).snd).snd).snd).fst,(((((xci a n h b d c e).snd).snd).snd).snd).fst,((((((xci a n h b d c e).snd).snd).snd).snd).snd).fst,(((((((xci a n h b d c e).snd).snd).snd).snd).snd).snd).fst,((((((((xci a n h b d c e).snd).snd).snd).snd).snd).snd).snd).fst,((((((((xci a n h b d c e).snd).snd).snd).snd).snd).snd).snd).snd)) δ)
def xjH (a n h:Int) (b c:Nat) (d e:LA):=xi9 a n h b c d e none some
def xvG (a n h:Int) (b c:Nat) (d e:LA):Enc (fun (p:Int×Nat×Nat×Nat×Nat×LA×Nat×LA×Nat)=>(((AV.tuple [],([⟨0,1,3,[AV.int .i64 p.1],false,true⟩,⟨0,1,126,[AV.osl 3 p.2.1 0 p.2.2.1],false,false⟩,⟨0,1,64,[AV.osl 4 p.2.2.2.1 0 p.2.2.2.2.1],false,false⟩,⟨p.2.2.2.2.2.2.1,2,128,p.2.2.2.2.2.1,false,true⟩,⟨p.2.2.2.2.2.2.2.2,2,52,p.2.2.2.2.2.2.2.1,false,true⟩]:List Box))):(AV×List Box))) (xjH a n h b c d e) (XFM P0 xgj Tryz.f106 (Tryz.f106.body.getD .skip) [AV.int .i64 a,AV.int .i64 n,AV.own (0:Id) 0 0 0,AV.own (1:Id) 0 0 0,AV.own (2:Id) 0 0 0] [{ ver:=0,sz:=1,ty:=(3:TypeId),xs:=[AV.int .i64 h],frz:=false,pm:=true },{ ver:=0,sz:=1,ty:=(126:TypeId),xs:=[AV.osl (3:Id) 0 0 b],frz:=false,pm:=false },{ ver:=0,sz:=1,ty:=(64:TypeId),xs:=[AV.osl (4:Id) 0 0 c],frz:=false,pm:=false },{ ver:=0,sz:=2,ty:=(128:TypeId),xs:=d,frz:=false,pm:=true },{ ver:=0,sz:=2,ty:=(52:TypeId),xs:=e,frz:=false,pm:=true }]):=by
 have h:XFM P0 xgj Tryz.f106 (Tryz.f106.body.getD .skip) [AV.int .i64 a,AV.int .i64 n,AV.own (0:Id) 0 0 0,AV.own (1:Id) 0 0 0,AV.own (2:Id) 0 0 0] [{ ver:=0,sz:=1,ty:=(3:TypeId),xs:=[AV.int .i64 h],frz:=false,pm:=true },{ ver:=0,sz:=1,ty:=(126:TypeId),xs:=[AV.osl (3:Id) 0 0 b],frz:=false,pm:=false },{ ver:=0,sz:=1,ty:=(64:TypeId),xs:=[AV.osl (4:Id) 0 0 c],frz:=false,pm:=false },{ ver:=0,sz:=2,ty:=(128:TypeId),xs:=d,frz:=false,pm:=true },{ ver:=0,sz:=2,ty:=(52:TypeId),xs:=e,frz:=false,pm:=true }]=xi9 a n h b c d e none (fun (p:Int×Nat×Nat×Nat×Nat×LA×Nat×LA×Nat)=>some (((AV.tuple [],([⟨0,1,3,[AV.int .i64 p.1],false,true⟩,⟨0,1,126,[AV.osl 3 p.2.1 0 p.2.2.1],false,false⟩,⟨0,1,64,[AV.osl 4 p.2.2.2.1 0 p.2.2.2.2.1],false,false⟩,⟨p.2.2.2.2.2.2.1,2,128,p.2.2.2.2.2.1,false,true⟩,⟨p.2.2.2.2.2.2.2.2,2,52,p.2.2.2.2.2.2.2.1,false,true⟩]:List Box))):(AV×List Box))):=by kernel_rfl
 rw [h];unfold xjH xi9;repeat' (first|refine Enc.br ?_ ?_|exact Enc.none|exact Enc.some rfl)
end Go.Sim.M
namespace Go.Sim
open Go.RowKit
def GoodM.aged {P:Program} {Inv:IV} {f:FuncId} {args:List AV} {H E:List Box} {p q v k t s y:Nat} {xs:List AV}
  (h:GoodM P Inv f args H (.tuple []) E) (hz:∀ bx,H[q]?=some bx->bx.ver=0)
  (ep:E[p]?=some ⟨0,1,t,[.osl (.b q) v 0 k],false,false⟩) (eq:E[q]?=some ⟨v,s,y,xs,false,true⟩) (pt:isC t=false) (py:isC y=false)
  (ho:∀ n bx,E[n]?=some bx->isC bx.ty=false/\(n=p\/n=q\/bx.pm=true\/∃ n' v' k',n'≠q/\bx.xs=[.osl (.b n') v' 0 k'])) :
  GoodM P Inv f args H (.tuple []) ((E.set p ⟨0,1,t,[.osl (.b q) 1 0 k],false,false⟩).set q ⟨1,s,y,xs,false,true⟩):=by
 have pq:p≠q:=fun e=>by
  subst e;rw [ep] at eq;simp at eq
 refine ⟨h.1,fun w0 w A M vs hI hB hR aa=>(h.2 w0 w A M vs hI hB hR aa).mono ?_⟩
 rintro e w' ⟨u,A',M',rfl,h1,h2,h3,h4,h5⟩;let M'':Id->Option MB:=fun id=>if id=.b q then (M' id).map fun m=>⟨m.b,1,m.sz,m.cap,m.ty⟩ else M' id
 have eo:∀ id,id≠.b q->M'' id=M' id:=fun id g1=>if_neg g1
 have e4:∀ m,M' (.b q)=some m->M'' (.b q)=some ⟨m.b,1,m.sz,m.cap,m.ty⟩:=fun m hm=>(if_pos rfl).trans (by rw [hm];rfl)
 have O:∀ id m1,M'' id=some m1->∃ m0,M' id=some m0/\m1.b=m0.b/\m1.cap=m0.cap:=fun id m1 J=>by
  by_cases g3:id=.b q
  . subst g3;cases hm:M' (.b q) with
    | none=>simp [M'',hm] at J
    | some m=>rw [e4 m hm] at J;simp only [z6] at J;subst J;exact ⟨m,rfl,rfl,rfl⟩
  . exact ⟨m1,eo id g3▸J,rfl,rfl⟩
 have Q:∀ n bx m,E[n]?=some bx->M' (.b n)=some m->BoxAt w' A' M' w0.heap.size (.b n) m bx:=fun n bx m hn hm=>by
  obtain ⟨bx',g1,g2⟩:=h4.box _ m hm;rw [xcb,hn] at g1;cases g1;exact g2
 have hv:∀ m,M' (.b q)=some m->v=m.ver:=fun m hm=>(Q q _ m eq hm).ver
 have hx:∀ c n' v' k',n'≠q->Rel w' A' M' c (.osl (.b n') v' 0 k')->Rel w' A' M'' c (.osl (.b n') v' 0 k'):=fun c n' v' k' hn hr=>by
  obtain ⟨m0,g1,g2,g3,g4⟩:=Rel.osl_inv hr;exact .osl c _ v' 0 k' m0 ((eo _ fun e=>hn (by cases e;rfl)).trans g1) g2 g3 g4
 have hy:∀ c,Rel w' A' M' c (.osl (.b q) v 0 k)->Rel w' A' M'' c (.osl (.b q) 1 0 k):=fun c hr=>by
  obtain ⟨m0,g1,g2,g3,g4⟩:=Rel.osl_inv hr;exact .osl c _ 1 0 k _ (e4 m0 g1) (zd _) g3 fun _=>g4 (hv m0 g1)
 have hb:∀ id (bx bx':Box) (m m':MB),isC bx.ty=false->bx'=⟨m'.ver,bx.sz,bx.ty,bx'.xs,bx.frz,bx.pm⟩->m'=⟨m.b,m'.ver,m.sz,m.cap,m.ty⟩->bx'.xs.length=bx.xs.length->(∀ x,x∈bx'.xs->x.okElem m.sz=true) ->
   (∀ c i j,Rel w' A' (MP M' bx.pm) c ((bx.xs.getD i .top).cells.getD j .top)->Rel w' A' (MP M'' bx.pm) c ((bx'.xs.getD i .top).cells.getD j .top))->BoxAt w' A' M' w0.heap.size id m bx->BoxAt w' A' M'' w0.heap.size id m' bx':=fun id bx bx' m m' V Z ad hl ac hc g=>by
  rw [Z,ad];have W:xH8 m.ty=false:=g.nomap (xa6 V);refine ⟨rfl,g.sz,g.ty,g.capm,hl▸g.fits,ac,g.low,g.lt,fun h0=>?_,g.guard⟩
  obtain ⟨c,c1,c2,c3⟩:=g.cells h0;refine ⟨c,.of W (c1.plain W),c2,fun i j hi hj=>?_⟩
  have:=c3 i j (hl▸hi) hj;rw [xa1 V,xbK V] at this;rw [xa1 V,xbK (bx:=⟨m'.ver,bx.sz,bx.ty,bx'.xs,bx.frz,bx.pm⟩) V];exact hc _ i j this
 have ht:∀ a v1 v2 d,(∀ c,Rel w' A' M' c (.osl a v1 0 d)->Rel w' A' M'' c (.osl a v2 0 d))->∀ c i j,Rel w' A' M' c ((([.osl a v1 0 d]:List AV).getD i .top).cells.getD j .top)->Rel w' A' M'' c ((([.osl a v2 0 d]:List AV).getD i .top).cells.getD j .top):=fun a v1 v2 d hh c i j hr=>by
  match i,j with
  | 0,0=>exact hh c hr
  | 0,j+1=>exact .top _
  | i+1,0=>exact .top _
  | i+1,j+1=>exact .top _
 have hg:∀ n bx,E[n]?=some bx->∃ bx',((E.set p ⟨0,1,t,[.osl (.b q) 1 0 k],false,false⟩).set q ⟨1,s,y,xs,false,true⟩)[n]?=some bx'/\isC bx'.ty=false/\(∀ m m1,M' (.b n)=some m->M'' (.b n)=some m1->BoxAt w' A' M'' w0.heap.size (.b n) m1 bx'):=fun n bx hn=>by
  have hn':=xdB hn;obtain ⟨hC,hc⟩:=ho n bx hn;by_cases g1:n=q
  . subst g1;rw [hn] at eq;cases eq;refine ⟨_,zL (by simpa using hn'),py,fun m m1 e1 e2=>?_⟩
    rw [e4 m e1] at e2;cases e2;have g:=Q n _ m hn e1;exact hb _ ⟨v,s,y,xs,false,true⟩ ⟨1,s,y,xs,false,true⟩ m _ py rfl rfl rfl g.ok (fun c i j hr=>hr) g
  . have ge:∀ m m1,M' (.b n)=some m->M'' (.b n)=some m1->m1=m:=fun m m1 e1 e2=>by
     rw [eo _ fun e=>g1 (by cases e;rfl),e1] at e2;cases e2;rfl
    by_cases g2:n=p
    . subst g2;rw [hn] at ep;cases ep;refine ⟨_,(zX (Ne.symm g1)).trans (zL hn'),pt,fun m m1 e1 e2=>?_⟩
      cases ge m m1 e1 e2;have g:=Q n _ m hn e1;have hv:0=m.ver:=g.ver;have hz:m.sz=1:=g.sz.symm;exact hb _ ⟨0,1,t,[.osl (.b q) v 0 k],false,false⟩ ⟨0,1,t,[.osl (.b q) 1 0 k],false,false⟩ m m pt (by rw [<-hv]) rfl rfl (fun x hx=>by simp only [zv] at hx;subst hx;rw [hz];rfl) (ht _ _ _ _ hy) g
    . refine ⟨bx,(zX (Ne.symm g1)).trans ((zX (Ne.symm g2)).trans hn),hC,fun m m1 e1 e2=>?_⟩
      cases ge m m1 e1 e2;have g:=Q n _ m hn e1;refine hb _ bx bx m m hC (by rw [<-g.ver]) rfl rfl g.ok ?_ g
      rcases hc with hc|hc|hc|⟨n',v',k',hc,hd⟩
      . exact absurd hc g2
      . exact absurd hc g1
      . rw [hc];exact fun c i j hr=>hr
      . cases ae:bx.pm with
        | true=>exact fun c i j hr=>hr
        | false=>rw [hd];exact ht _ _ _ _ fun c=>hx c n' v' k' hc
 have hR':HR w' A' M'' w0.heap.size ((E.set p ⟨0,1,t,[.osl (.b q) 1 0 k],false,false⟩).set q ⟨1,s,y,xs,false,true⟩):=by
  refine ⟨fun id m1 J=>?_,fun id id' m1 m2 k1 k2 c1 c2 he=>?_,h4.lt⟩
  . obtain ⟨m0,g1,_⟩:=O id m1 J;obtain ⟨bx,q1,q2⟩:=h4.box _ m0 g1;cases id with
    | r n i j =>
     rw [eo _ (fun e=>by cases e),g1] at J
     cases J;obtain ⟨c0,r1,_⟩:=xmr q1;obtain ⟨bx',r2,r3,_⟩:=hg n c0 r1;rw [xdV r1 (ho n c0 r1).1] at q1;cases q1;exact ⟨_,xdV r2 r3,hb _ tombB tombB m1 m1 rfl (by rw [<-q2.ver]) rfl rfl q2.ok (fun c i j hr=>hr) q2⟩
    | b n =>
     obtain ⟨bx',r2,_,r3⟩:=hg n bx q1;exact ⟨bx',r2,r3 _ _ g1 J⟩
  . obtain ⟨n1,a1,a2,a3⟩:=O id m1 k1;obtain ⟨n2,b1,b2,b3⟩:=O id' m2 k2;exact h4.inj id id' n1 n2 a1 b1 (a3▸c1) (b3▸c2) (by rw [<-a2,<-b2,he])
 refine ⟨u,A',M'',rfl,h1,h2,⟨h3.size,h3.keep,h3.less,h3.more,fun id m Y hm=>?_,fun id m1 J h0=>?_⟩,hR',?_⟩
 . obtain ⟨m',g1,g2⟩:=h3.ids id m Y hm;by_cases q4:id=.b q
   . subst q4;obtain ⟨bx,r1,r2⟩:=hR.box _ m hm;exact ⟨_,e4 m' g1,.inr (by rw [<-r2.ver,hz bx r1];exact Nat.zero_lt_one)⟩
   . exact ⟨m',(eo id q4).trans g1,g2⟩
 . obtain ⟨m0,g1,g2,g3⟩:=O id m1 J;rw [g2];exact h3.src id m0 g1 (g3▸h0)
 . obtain ⟨ab,rfl,q1,_⟩:=h5.tuple_inv;exact .tuple ab [] q1 (by simp)
namespace M
open Go.Proofs
noncomputable def set2 (q n h:Int) (ns no:Nat) (sx ox:List AV):Option (Int×Nat×Nat×List AV×List AV):=(xjH q n h ns no sx ox).bind fun p =>
 br (Nat.beq p.2.1 p.2.2.2.2.2.2.1&&Nat.beq p.2.2.2.1 p.2.2.2.2.2.2.2.2) (some (p.1,p.2.2.1,p.2.2.2.2.1,p.2.2.2.2.2.1,p.2.2.2.2.2.2.2.1)) none
noncomputable def xBn:List AV->List Box->Option (Bool×AV×List Box):=omOf (xIQ (sEq (pInt IntKind.i64)) (xIQ (sEq (pInt IntKind.i64)) (xIQ (sEq (xI1 0 0 0 0)) (xIQ (sEq (xI1 1 0 0 0)) (xIQ (sEq (xI1 2 0 0 0)) xIS)))))
 (xIP (xI3 0 1 3 false true (xIP (pInt IntKind.i64) xIR)) (xIP (xI3 0 1 126 false false (xIP (xI0 3 0 0) xIR)) (xIP (xI3 0 1 64 false false (xIP (xI0 4 0 0) xIR)) (xIP (xI3 0 2 128 false true xIT) (xIP (xI3 0 2 52 false true xIT) xIR)))))
 fun (q,(n,(_,(_,(_,_))))) ((h,_),((ns,_),((no,_),(sx,(ox,_)))))=>((set2 q n h ns no sx ox).isSome,(.tuple [],[⟨0,1,3,[.int .i64 ((set2 q n h ns no sx ox).getD (0,0,0,[],[])).1],false,true⟩,⟨0,1,126,[.osl (.b 3) 1 0 ((set2 q n h ns no sx ox).getD (0,0,0,[],[])).2.1],false,false⟩,⟨0,1,64,[.osl (.b 4) 1 0 ((set2 q n h ns no sx ox).getD (0,0,0,[],[])).2.2.1],false,false⟩,⟨1,2,128,((set2 q n h ns no sx ox).getD (0,0,0,[],[])).2.2.2.1,false,true⟩,⟨1,2,52,((set2 q n h ns no sx ox).getD (0,0,0,[],[])).2.2.2.2,false,true⟩]))
def xFK:OmOk P0 xIO 106 xBn:=xjK fun vv bb rr Z hh=>by
 obtain ⟨J,⟨n,⟨_,⟨_,⟨_,_⟩⟩⟩⟩⟩:=vv;obtain ⟨⟨h,_⟩,⟨⟨ns,_⟩,⟨⟨no,_⟩,⟨sx,⟨ox,_⟩⟩⟩⟩⟩:=bb;obtain ⟨O,V⟩:=Prod.mk.inj hh;cases hs:xjH J n h ns no sx ox with
 | none=>rw [show set2 J n h ns no sx ox=none by unfold set2;rw [hs];rfl] at O;simp at O
 | some p =>
  have W:set2 J n h ns no sx ox=br (Nat.beq p.2.1 p.2.2.2.2.2.2.1&&Nat.beq p.2.2.2.1 p.2.2.2.2.2.2.2.2) (some (p.1,p.2.2.1,p.2.2.2.2.1,p.2.2.2.2.2.1,p.2.2.2.2.2.2.2.1)) none:=by unfold set2;rw [hs];rfl
  cases ht:Nat.beq p.2.1 p.2.2.2.2.2.2.1&&Nat.beq p.2.2.2.1 p.2.2.2.2.2.2.2.2 with
  | false=>rw [W,ht] at O;simp [br] at O
  | true =>
   rw [ht] at W;have Y:set2 J n h ns no sx ox=some (p.1,p.2.2.1,p.2.2.2.2.1,p.2.2.2.2.2.1,p.2.2.2.2.2.2.2.1):=W;rw [Y] at V;simp only [zh] at V;simp only [zf] at ht;have e1:=zg ht.1;have e2:=zg ht.2;have hx:=xvG J n h ns no sx ox p hs;have hg:GoodM P0 xIO 106 _ _ _ _:=xmt (p:=xgj.pin) (xms xIf (xIg P0 _) rfl xrW rfl Tryz.func106 rfl (by kernel_rfl) xp5 hx)
   rw [<-e1,<-e2] at hg;have Q:=GoodM.aged (p:=1) (q:=3) hg (fun bx hb=>by cases hb;rfl) rfl rfl rfl rfl (fun n bx hn=>by
    match n with
    | 0=>cases hn;exact ⟨rfl,.inr (.inr (.inl rfl))⟩
    | 1=>cases hn;exact ⟨rfl,.inl rfl⟩
    | 2=>cases hn;exact ⟨rfl,.inr (.inr (.inr ⟨_,_,_,by decide,rfl⟩))⟩
    | 3=>cases hn;exact ⟨rfl,.inr (.inl rfl)⟩
    | 4=>cases hn;exact ⟨rfl,.inr (.inr (.inl rfl))⟩
    | n+5=>simp at hn)
   have Q:=GoodM.aged (p:=2) (q:=4) Q (fun bx hb=>by cases hb;rfl) rfl rfl rfl rfl (fun n bx hn=>by
    match n with
    | 0=>cases hn;exact ⟨rfl,.inr (.inr (.inl rfl))⟩
    | 1=>cases hn;exact ⟨rfl,.inr (.inr (.inr ⟨_,_,_,by decide,rfl⟩))⟩
    | 2=>cases hn;exact ⟨rfl,.inl rfl⟩
    | 3=>cases hn;exact ⟨rfl,.inr (.inr (.inl rfl))⟩
    | 4=>cases hn;exact ⟨rfl,.inr (.inl rfl)⟩
    | n+5=>simp at hn)
   obtain ⟨rfl,rfl⟩:=Prod.mk.inj V;exact Q
noncomputable def ESet:Env:=xoV.E.withM 106 xBn
def xC4:xH6 P0 xIO ESet:=xoV.ok.withM xFK
noncomputable def xwx:EO:=EO.mk ESet xC4
end M
end Go.Sim
namespace Go.Sim.M
open Go.IntKind (i64 u64 u8)
open Go.RowKit Go.Proofs
def xjn (a:LA) (h b:Int) (f c:Nat) (g:Int) (d e:LA):Int:=if 0>(gC a b 1).toInt then 0 else (gC a b 1).toInt
def xjm (f:LA) (h g:Int) (d a:Nat) (e:Int) (b c:LA):=set2 (gC f g 0).toInt (if 1048576<xjn f h g d a e b c then 1048576 else xjn f h g d a e b c) e a d c b
def xdf (f:LA) (g h:Int) (d a:Nat) (e:Int) (b c:LA):=(xjm f g h d a e b c).getD (0,0,0,[],[])
def xhj {T:Type} (g:LA) (h e:Int) (d a:Nat) (f:Int) (b c:LA) (δ:T) (κl:(Int×Nat×Nat×Int×LA×LA)->T) (κr:(Nat×Int×Nat×LA×LA)->T):T:=br (decide (e<h)) (br (ixI g e) (br (ixT g e 2 [Sh.int .i64,Sh.int .i64] 0) (br ((xjm g h e d a f b c).isSome) (κl (i64.wrap (e+1),(((xdf g h e d a f b c).snd).snd).fst,(((xdf g h e d a f b c).snd).fst),(xdf g h e d a f b c).fst,((((xdf g h e d a f b c).snd).snd).snd).snd,List.take (((xdf g h e d a f b c).snd).fst) ((((xdf g h e d a f b c).snd).snd).snd).fst)) δ) δ) δ) (κr (d,f,a,b,c))
def xdw (f:LA) (g:Int):StT (Int×Nat×Nat×Int×LA×LA) (Nat×Int×Nat×LA×LA):=fun (h,d,a,e,b,c)=>xhj f g h d a e b c none inL inR
def xmF:=xwx.l 30 0 [] [] Tryz.f76 0 lk0 [3,4,6,10,11,12] [3,6] [(3,2,52),(4,2,128),(4,0,0)] (q6 (xI1 0 0 0 0) (xI1 1 0 0 0) (xIt 106 (q3 (xI1 2 0 0 0) (xI1 1 0 0 0) (xI1 0 0 0 0))) (qL 2) qI qI) (q5 (xI3 0 1 64 false false (q1 (xI0 3 0 0))) (xI3 0 1 126 false false (q1 (xI0 4 0 0))) (qB 0 1 3 (q1 qI)) (qB 0 2 52 xIT) (qB 0 2 128 xIT)) (fun (_,_,(_,_,_,_),f,g,h,_) ((d,_),(a,_),(e,_),b,c,_)=>(xdw f g,(h,d,a,e,b,c),fun p=>(.leaf (.exit 0) [AV.own 0 0 0 0,AV.func 106 [AV.own 1 0 0 0,AV.own 2 0 0 0,AV.own 0 0 0 0]] [⟨0,1,64,[AV.osl 3 0 0 p.1],false,false⟩,bF 0 1 3 [AV.int .i64 p.2.1],⟨0,1,126,[AV.osl 4 0 0 p.2.2.1],false,false⟩,bF 0 2 52 p.2.2.2.1,bF 0 2 128 p.2.2.2.2]))) (0,0,0,[],[]) fun (_,_,(_,_,_,_),f,g,_,_) _ (h,d,a,e,b,c)=>((((),(),((),(),(),()),f,g,h,()),((d,()),(a,()),(e,()),b,c,())),xhj f g h d a e b c none)
def xlK (l:LA):=Iter (xdw l (↑l.length:Int)) (0,0,0,0,[],[])
def xfn (l:LA):=(xlK l).getD (0,0,0,[],[])
def xlJ (l:LA):=set2 1099511627776 0 ((xfn l).snd).fst (((xfn l).snd).snd).fst (xfn l).fst ((((xfn l).snd).snd).snd).snd ((((xfn l).snd).snd).snd).fst
def xc1 (l:LA):=((xlJ l).getD (0,0,0,[],[])).snd.snd
def xl5 {T:Type} (l:LA) (δ:T) (κ:LA->T):T:=br ((xlK l).isSome) (br ((xlJ l).isSome) (br (((xc1 l).fst).beq ((xc1 l).snd.snd).length&&(decide (((xc1 l).fst)<4611686018427387904)&&((xc1 l).snd.snd).all isP)) (br (decide (0+((xc1 l).fst)<=(srtP ((xc1 l).snd.snd)).length)&&true) (κ (List.take ((xc1 l).fst) (List.drop 0 (srtP ((xc1 l).snd.snd))))) δ) δ) δ) δ
def xa2 (l:LA):=xl5 l none some
def xEl:EO:=xwx.f Tryz.func76 30 0 [] [(6,xmF.lp)] (lk1 xmF.ok) (u1 (uL 2)) (fun (l,_) _=>xl5 l) (fun _ p=>AV.list 2 p) []
def xk5 {T:Type} (a:LA) (δ:T) (κ:LA->T):T:=br ((↑a.length:Int)==1) (κ (a)) (br ((xeG a).isSome) (br ((xa2 ((xeG a).getD [])).isSome) (κ ((xa2 ((xeG a).getD [])).getD [])) δ) δ)
def xfp (a:LA):=xk5 a none some
def xu0:EO:=xEl.f Tryz.func115 10 0 [] [] lk0 (u1 (uL 2)) (fun (a,_) _=>xk5 a) (fun _ p=>AV.list 2 p) []
def xiM {T:Type} (b e:LA) (f:Int) (c:Nat) (a:Int) (d:LA) (δ:T) (κl:(Nat×Int×LA)->T) (κr:(Nat×LA)->T):T:=br (decide (a<f)) (br (decide (0<=a)&&decide (a<e.length)) (br (decide (a.toNat<e.length)&&((e.getD a.toNat .top).cells.length==2&&xIb [Sh.int .i64,Sh.int .i64] (e.getD a.toNat .top).cells 0)) (br (xf0 ((e.getD a.toNat .top).cells.getD 0 .top).toInt ((e.getD a.toNat .top).cells.getD 1 .top).toInt) (br (c==d.length&&(decide ((c+2)*24<=140737488355328)&&decide (c+2<=4611686018427387904))) (κl (c+2,i64.wrap (a+1),d++[AV.agg [AV.int .i64 ((e.getD a.toNat .top).cells.getD 0 .top).toInt,AV.int .i64 1,AV.int .i64 0],AV.agg [AV.int .i64 ((e.getD a.toNat .top).cells.getD 1 .top).toInt,AV.int .i64 (-1),AV.int .i64 0]])) δ) (κl (c,i64.wrap (a+1),d))) δ) δ) (κr (c,d))
def xcu (b d:LA) (e:Int):StT (Nat×Int×LA) (Nat×LA):=fun (c,f,a)=>xiM b d e c f a none inL inR
def xkB:=xu0.l 49 0 [] [] Tryz.f129 0 lk0 [1,5,10,11,12] [1,5] [(5,3,154)] (q5 (qL 2) (xI0 0 0 0) (qL 2) qI qI) (q1 (qB 0 3 154 xIT)) (fun (b,c,d,e,f,_) (a,_)=>(xcu b d e,(c,f,a),fun p=>(.leaf (.exit 0) [AV.list 2 b,AV.osl 0 0 0 p.1] [bF 0 3 154 p.2]))) (0,[]) fun (b,_,d,e,_,_) _ (c,f,a)=>(((b,c,d,e,f,()),(a,())),xiM b d e c f a none)
def xiN {T:Type} (d:LA) (e:Int) (b:Nat) (a:Int) (c:LA) (δ:T) (κl:(Nat×Int×LA)->T) (κr:(Nat×LA)->T):T:=br (decide (a<e)) (br (decide (0<=a)&&decide (a<d.length)) (br (decide (a.toNat<d.length)&&((d.getD a.toNat .top).cells.length==2&&xIb [Sh.int .i64,Sh.int .i64] (d.getD a.toNat .top).cells 0)) (br (xf0 ((d.getD a.toNat .top).cells.getD 0 .top).toInt ((d.getD a.toNat .top).cells.getD 1 .top).toInt) (br (b==c.length&&(decide ((b+2)*24<=140737488355328)&&decide (b+2<=4611686018427387904))) (κl (b+2,i64.wrap (a+1),c++[AV.agg [AV.int .i64 ((d.getD a.toNat .top).cells.getD 0 .top).toInt,AV.int .i64 0,AV.int .i64 1],AV.agg [AV.int .i64 ((d.getD a.toNat .top).cells.getD 1 .top).toInt,AV.int .i64 0,AV.int .i64 (-1)]])) δ) (κl (b,i64.wrap (a+1),c))) δ) δ) (κr (b,c))
def xd1 (c:LA) (d:Int):StT (Nat×Int×LA) (Nat×LA):=fun (b,e,a)=>xiN c d b e a none inL inR
def xn3:=xu0.l 49 0 [] [(3,xkB.lp)] Tryz.f129 1 lk0 [5,28,29,30] [5] [(5,3,154)] (q4 (xI0 0 0 0) (qL 2) qI qI) (q1 (qB 0 3 154 xIT)) (fun (b,c,d,e,_) (a,_)=>(xd1 c d,(b,e,a),fun p=>(.leaf (.exit 2) [AV.osl 0 0 0 p.1] [bF 0 3 154 p.2]))) (0,[]) fun (_,c,d,_,_) _ (b,e,a)=>(((b,c,d,e,()),(a,())),xiN c d b e a none)
def xkl (a b:LA):=(Iter (xcu b a (↑a.length:Int)) (0,0,[])).getD (0,[])
def xkk (a b:LA):=Iter (xd1 b (↑b.length:Int)) ((xkl a b).fst,0,(xkl a b).snd)
def xkj (a b:LA):=(xkk a b).getD (0,[])
def xgl (a b:LA):=(xkj a b).fst
def xgm (a b:LA):=(xkj a b).snd
def xn4 {T:Type} (a b:LA) (δ:T) (κ:LA->T):T:=br ((Iter (xcu b a (↑a.length:Int)) (0,0,[])).isSome) (br ((xkk a b).isSome) (br ((xgl a b).beq (xgm a b).length&&(decide (xgl a b<4611686018427387904)&&(xgm a b).all isE)) (br (decide (0+xgl a b<=(srtE (xgm a b)).length)&&true) (κ (List.take (xgl a b) (List.drop 0 (srtE (xgm a b))))) δ) δ) δ) δ
def xgO (a b:LA):=xn4 a b none some
def xEm:EO:=xu0.f Tryz.func129 49 0 [] [(3,xkB.lp),(9,xn3.lp)] (lks (lkC xkB.ok (lkC xn3.ok lkN))) (u2 (uL 2) (uL 2)) (fun (a,b,_) _=>xn4 a b) (fun _ p=>AV.list 3 p) []
def xkU (a b:Bool):Bool:=((a))
def xwP {T:Type} (a b:Bool) (δ:T) (κ:Bool->T):T:=κ (a)
def xEn:EO:=xEm.fT Tryz.func93 6 0 [] [] lk0 (fun (a,b,_)=>xwP a b none) (u2 (sEq pBool) (sEq pBool)) (fun (a,b,_)=>xkU a b) (fun _ p=>(AV.bool p))
def xfm (a b:Bool):Bool:=(br (a) ((!b)) ((false)))
def xq9 {T:Type} (a b:Bool) (δ:T) (κ:Bool->T):T:=br (a) (κ (!b)) (κ (false))
def xu1:EO:=xEn.fT Tryz.func98 10 0 [] [] lk0 (fun (a,b,_)=>xq9 a b none) (u2 (sEq pBool) (sEq pBool)) (fun (a,b,_)=>xfm a b) (fun _ p=>(AV.bool p))
def xm4 {T:Type} (l:LA) (e:Nat) (d b c i:Int) (a:LA) (δ:T) (κl:(Int×Int×Int×LA)->T) (κr:(Int×Int×Int×LA)->T):T:=br (decide (i<l.length)) (br (decide (0<=i)&&decide (i<l.length)) (br (decide (i.toNat<l.length)&&xH4 (Sh.int .i64) ((l.getD i.toNat .top).cells.getD 0 .top)) (br (((l.getD i.toNat .top).cells.getD 0 .top).toInt==d) (br (decide (0<=i)&&decide (i<l.length)) (br (decide (i.toNat<l.length)&&xH4 (Sh.int .i64) ((l.getD i.toNat .top).cells.getD 1 .top)) (br (decide (0<=i)&&decide (i<l.length)) (br (decide (i.toNat<l.length)&&xH4 (Sh.int .i64) ((l.getD i.toNat .top).cells.getD 2 .top)) (κl (i64.wrap (b+((l.getD i.toNat .top).cells.getD 1 .top).toInt),i64.wrap (c+((l.getD i.toNat .top).cells.getD 2 .top).toInt),i64.wrap (i+1),a)) δ) δ) δ) δ) (κr (b,c,i,a))) δ) δ) (κr (b,c,i,a))
def xh1 (l:LA) (b:Nat) (c:Int):StT (Int×Int×Int×LA) (Int×Int×Int×LA):=fun (d,e,i,a)=>xm4 l b c d e i a none inL inR
def xgR:=xu1.l 92 0 [] [] Tryz.f92 1 lk0 [2,7,8,9,10,11,12] [2,7,8,9,10,11,12] [(8,2,52)] (q7 (xIt 93 xIR) (qL 3) (xI0 0 0 0) qI qI qI qI) (q1 (qB 0 2 52 xIT)) (fun (_,l,a,d,e,i,c,_) (b,_)=>(xh1 l a c,(d,e,i,b),fun p=>(.leaf (.exit 2) [AV.func 93 [],AV.list 3 l,AV.osl 0 0 0 a,AV.int .i64 p.1,AV.int .i64 p.2.1,AV.int .i64 p.2.2.1,AV.int .i64 c] [bF 0 2 52 p.2.2.2]))) (0,0,0,[]) fun (_,l,a,_,_,_,c,_) _ (d,e,i,b)=>((((),l,a,d,e,i,c,()),(b,())),xm4 l a c d e i b none)
def xgQ (a:Nat):=decide (0<=i64.wrap ((↑a:Int) - 1))&&decide (i64.wrap ((↑a:Int) - 1)<(↑a:Int))
def xaM (l:LA) (b:Nat) (d e i c:Int) (a:LA):=(Iter (xh1 l b c) (d,e,i,a)).getD (0,0,0,[])
def xbj (a:Nat):Nat:=0+(i64.wrap ((↑a:Int) - 1)).toNat
def xaO (l:LA) (b:Nat) (d e i c:Int) (a:LA):=(((xaM l b d e i c a).snd).snd).snd
def xmB (l:LA) (b:Nat) (d e i c:Int) (a:LA):=xkU (decide (((xaM l b d e i c a).fst)>0)) (decide ((((xaM l b d e i c a).snd).fst)>0))
def xaQ (l:LA) (b:Nat) (d e i c:Int) (a:LA):=(((xaM l b d e i c a).snd).snd).fst
def xgP (l:LA) (a:Nat) (d e i c:Int) (b:LA):=decide (xbj a<(xaO l a d e i c b).length)
def xm3 {T:Type} (l:LA) (a:Nat) (d e i c:Int) (b:LA) (δ:T) (κl:(Nat×Int×Int×Int×Int×LA)->T) (κr:(Nat×LA)->T):T:=br (decide (c<1099511627776)) (br ((Iter (xh1 l a c) (d,e,i,b)).isSome) (br (decide (xaQ l a d e i c b<l.length)) (br (decide (0<=xaQ l a d e i c b)&&(decide (xaQ l a d e i c b<l.length))) (br (decide ((xaQ l a d e i c b).toNat<l.length)&&xH4 (Sh.int .i64) ((l.getD (xaQ l a d e i c b).toNat .top).cells.getD 0 .top)) (br (xmB l a d e i c b) (br (decide ((↑a:Int)>0)) (br (xgQ a) (br (xgP l a d e i c b&&xH4 (Sh.int .i64) (((xaO l a d e i c b).getD (xbj a) .top).cells.getD 1 .top)) (br ((((xaO l a d e i c b).getD (xbj a) .top).cells.getD 1 .top).toInt==c) (br (xgQ a) (br (xgP l a d e i c b) (κl (a,((xaM l a d e i c b).fst),(((xaM l a d e i c b).snd).fst),xaQ l a d e i c b,((l.getD (xaQ l a d e i c b).toNat .top).cells.getD 0 .top).toInt,(xaO l a d e i c b).set (xbj a) (AV.agg (List.take 1 ((xaO l a d e i c b).getD (xbj a) .top).cells++[AV.int .i64 ((l.getD (xaQ l a d e i c b).toNat .top).cells.getD 0 .top).toInt]++List.drop 2 ((xaO l a d e i c b).getD (xbj a) .top).cells)))) δ) δ) (br (a==(xaO l a d e i c b).length&&(decide ((a+1)*16<=140737488355328)&&decide (a+1<=4611686018427387904))) (κl (a+1,((xaM l a d e i c b).fst),(((xaM l a d e i c b).snd).fst),xaQ l a d e i c b,((l.getD (xaQ l a d e i c b).toNat .top).cells.getD 0 .top).toInt,xaO l a d e i c b++[AV.agg [AV.int .i64 c,AV.int .i64 ((l.getD (xaQ l a d e i c b).toNat .top).cells.getD 0 .top).toInt]])) δ)) δ) δ) (br (a==(xaO l a d e i c b).length&&(decide ((a+1)*16<=140737488355328)&&decide (a+1<=4611686018427387904))) (κl (a+1,((xaM l a d e i c b).fst),(((xaM l a d e i c b).snd).fst),xaQ l a d e i c b,((l.getD (xaQ l a d e i c b).toNat .top).cells.getD 0 .top).toInt,xaO l a d e i c b++[AV.agg [AV.int .i64 c,AV.int .i64 ((l.getD (xaQ l a d e i c b).toNat .top).cells.getD 0 .top).toInt]])) δ)) (κl (a,((xaM l a d e i c b).fst),(((xaM l a d e i c b).snd).fst),xaQ l a d e i c b,((l.getD (xaQ l a d e i c b).toNat .top).cells.getD 0 .top).toInt,xaO l a d e i c b))) δ) δ) (br (xmB l a d e i c b) (br (decide ((↑a:Int)>0)) (br (xgQ a) (br (xgP l a d e i c b&&xH4 (Sh.int .i64) (((xaO l a d e i c b).getD (xbj a) .top).cells.getD 1 .top)) (br ((((xaO l a d e i c b).getD (xbj a) .top).cells.getD 1 .top).toInt==c) (br (xgQ a) (br (xgP l a d e i c b) (κl (a,((xaM l a d e i c b).fst),(((xaM l a d e i c b).snd).fst),xaQ l a d e i c b,1099511627776,(xaO l a d e i c b).set (xbj a) (AV.agg (List.take 1 ((xaO l a d e i c b).getD (xbj a) .top).cells++[AV.int .i64 1099511627776]++List.drop 2 ((xaO l a d e i c b).getD (xbj a) .top).cells)))) δ) δ) (br (a==(xaO l a d e i c b).length&&(decide ((a+1)*16<=140737488355328)&&decide (a+1<=4611686018427387904))) (κl (a+1,((xaM l a d e i c b).fst),(((xaM l a d e i c b).snd).fst),xaQ l a d e i c b,1099511627776,xaO l a d e i c b++[AV.agg [AV.int .i64 c,AV.int .i64 1099511627776]])) δ)) δ) δ) (br (a==(xaO l a d e i c b).length&&(decide ((a+1)*16<=140737488355328)&&decide (a+1<=4611686018427387904))) (κl (a+1,((xaM l a d e i c b).fst),(((xaM l a d e i c b).snd).fst),xaQ l a d e i c b,1099511627776,xaO l a d e i c b++[AV.agg [AV.int .i64 c,AV.int .i64 1099511627776]])) δ)) (κl (a,((xaM l a d e i c b).fst),(((xaM l a d e i c b).snd).fst),xaQ l a d e i c b,1099511627776,xaO l a d e i c b)))) δ) (κr (a,b))
def xlG (l:LA):StT (Nat×Int×Int×Int×Int×LA) (Nat×LA):=fun (b,d,e,i,c,a)=>xm3 l b d e i c a none inL inR
def xmA:=xu1.l 92 0 [] [(6,xgR.lp)] Tryz.f92 0 (lk1 xgR.ok) [2,7,8,9,10,11,12] [8] [(8,2,52)] (q7 (xIt 93 xIR) (qL 3) (xI0 0 0 0) qI qI qI qI) (q1 (qB 0 2 52 xIT)) (fun (_,l,b,d,e,i,c,_) (a,_)=>(xlG l,(b,d,e,i,c,a),fun p=>(.leaf (.exit 0) [AV.osl 0 0 0 p.1] [bF 0 2 52 p.2]))) (0,[]) fun (_,l,_,_,_,_,_,_) _ (b,d,e,i,c,a)=>((((),l,b,d,e,i,c,()),(a,())),xm3 l b d e i c a none)
def xot (a b:LA):=Iter (xlG ((xgO a b).getD [])) (0,0,0,0,0,[])
def xiO (a b:LA):=(xot a b).getD (0,[])
def xo8 {T:Type} (a b:LA) (δ:T) (κ:LA->T):T:=br ((xgO a b).isSome) (br ((xot a b).isSome) (br (decide (0+((xiO a b).fst)<=((xiO a b).snd).length)&&true) (κ (List.take ((xiO a b).fst) (List.drop 0 ((xiO a b).snd)))) δ) δ) δ
def xn5 (a b:LA):=xo8 a b none some
def xEo:EO:=xu1.f Tryz.func92 92 0 [] [(6,xgR.lp),(5,xmA.lp)] (lks (lkC xmA.ok (lkC xgR.ok lkN))) (u3 (uL 2) (uL 2) (sEq (xIt (93:FuncId) xIR))) (fun (a,b,_,_) _=>xo8 a b) (fun _ p=>AV.list 2 p) []
def xqQ {T:Type} (l:LA) (δ:T) (κ:LA->T):T:=br ((xn5 l []).isSome) (κ ((xn5 l []).getD [])) δ
def xib (l:LA):=xqQ l none some
def xu2:EO:=xEo.f Tryz.func61 5 0 [] [] lk0 (u1 (uL 2)) (fun (l,_) _=>xqQ l) (fun _ p=>AV.list 2 p) []
def xm6 {T:Type} (l:LA) (e:Nat) (d b c i:Int) (a:LA) (δ:T) (κl:(Int×Int×Int×LA)->T) (κr:(Int×Int×Int×LA)->T):T:=br (decide (i<l.length)) (br (decide (0<=i)&&decide (i<l.length)) (br (decide (i.toNat<l.length)&&xH4 (Sh.int .i64) ((l.getD i.toNat .top).cells.getD 0 .top)) (br (((l.getD i.toNat .top).cells.getD 0 .top).toInt==d) (br (decide (0<=i)&&decide (i<l.length)) (br (decide (i.toNat<l.length)&&xH4 (Sh.int .i64) ((l.getD i.toNat .top).cells.getD 1 .top)) (br (decide (0<=i)&&decide (i<l.length)) (br (decide (i.toNat<l.length)&&xH4 (Sh.int .i64) ((l.getD i.toNat .top).cells.getD 2 .top)) (κl (i64.wrap (b+((l.getD i.toNat .top).cells.getD 1 .top).toInt),i64.wrap (c+((l.getD i.toNat .top).cells.getD 2 .top).toInt),i64.wrap (i+1),a)) δ) δ) δ) δ) (κr (b,c,i,a))) δ) δ) (κr (b,c,i,a))
def xh2 (l:LA) (b:Nat) (c:Int):StT (Int×Int×Int×LA) (Int×Int×Int×LA):=fun (d,e,i,a)=>xm6 l b c d e i a none inL inR
def xgU:=xu2.l 92 0 [] [] Tryz.f92 1 lk0 [2,7,8,9,10,11,12] [2,7,8,9,10,11,12] [(8,2,52)] (q7 (xIt 98 xIR) (qL 3) (xI0 0 0 0) qI qI qI qI) (q1 (qB 0 2 52 xIT)) (fun (_,l,a,d,e,i,c,_) (b,_)=>(xh2 l a c,(d,e,i,b),fun p=>(.leaf (.exit 2) [AV.func 98 [],AV.list 3 l,AV.osl 0 0 0 a,AV.int .i64 p.1,AV.int .i64 p.2.1,AV.int .i64 p.2.2.1,AV.int .i64 c] [bF 0 2 52 p.2.2.2]))) (0,0,0,[]) fun (_,l,a,_,_,_,c,_) _ (d,e,i,b)=>((((),l,a,d,e,i,c,()),(b,())),xm6 l a c d e i b none)
def xgT (a:Nat):=decide (0<=i64.wrap ((↑a:Int) - 1))&&decide (i64.wrap ((↑a:Int) - 1)<(↑a:Int))
def xaN (l:LA) (b:Nat) (d e i c:Int) (a:LA):=(Iter (xh2 l b c) (d,e,i,a)).getD (0,0,0,[])
def xbk (a:Nat):Nat:=0+(i64.wrap ((↑a:Int) - 1)).toNat
def xaP (l:LA) (b:Nat) (d e i c:Int) (a:LA):=(((xaN l b d e i c a).snd).snd).snd
def xmD (l:LA) (b:Nat) (d e i c:Int) (a:LA):=xfm (decide (((xaN l b d e i c a).fst)>0)) (decide ((((xaN l b d e i c a).snd).fst)>0))
def xaR (l:LA) (b:Nat) (d e i c:Int) (a:LA):=(((xaN l b d e i c a).snd).snd).fst
def xgS (l:LA) (a:Nat) (d e i c:Int) (b:LA):=decide (xbk a<(xaP l a d e i c b).length)
def xm5 {T:Type} (l:LA) (a:Nat) (d e i c:Int) (b:LA) (δ:T) (κl:(Nat×Int×Int×Int×Int×LA)->T) (κr:(Nat×LA)->T):T:=br (decide (c<1099511627776)) (br ((Iter (xh2 l a c) (d,e,i,b)).isSome) (br (decide (xaR l a d e i c b<l.length)) (br (decide (0<=xaR l a d e i c b)&&(decide (xaR l a d e i c b<l.length))) (br (decide ((xaR l a d e i c b).toNat<l.length)&&xH4 (Sh.int .i64) ((l.getD (xaR l a d e i c b).toNat .top).cells.getD 0 .top)) (br (xmD l a d e i c b) (br (decide ((↑a:Int)>0)) (br (xgT a) (br (xgS l a d e i c b&&xH4 (Sh.int .i64) (((xaP l a d e i c b).getD (xbk a) .top).cells.getD 1 .top)) (br ((((xaP l a d e i c b).getD (xbk a) .top).cells.getD 1 .top).toInt==c) (br (xgT a) (br (xgS l a d e i c b) (κl (a,((xaN l a d e i c b).fst),(((xaN l a d e i c b).snd).fst),xaR l a d e i c b,((l.getD (xaR l a d e i c b).toNat .top).cells.getD 0 .top).toInt,(xaP l a d e i c b).set (xbk a) (AV.agg (List.take 1 ((xaP l a d e i c b).getD (xbk a) .top).cells++[AV.int .i64 ((l.getD (xaR l a d e i c b).toNat .top).cells.getD 0 .top).toInt]++List.drop 2 ((xaP l a d e i c b).getD (xbk a) .top).cells)))) δ) δ) (br (a==(xaP l a d e i c b).length&&(decide ((a+1)*16<=140737488355328)&&decide (a+1<=4611686018427387904))) (κl (a+1,((xaN l a d e i c b).fst),(((xaN l a d e i c b).snd).fst),xaR l a d e i c b,((l.getD (xaR l a d e i c b).toNat .top).cells.getD 0 .top).toInt,xaP l a d e i c b++[AV.agg [AV.int .i64 c,AV.int .i64 ((l.getD (xaR l a d e i c b).toNat .top).cells.getD 0 .top).toInt]])) δ)) δ) δ) (br (a==(xaP l a d e i c b).length&&(decide ((a+1)*16<=140737488355328)&&decide (a+1<=4611686018427387904))) (κl (a+1,((xaN l a d e i c b).fst),(((xaN l a d e i c b).snd).fst),xaR l a d e i c b,((l.getD (xaR l a d e i c b).toNat .top).cells.getD 0 .top).toInt,xaP l a d e i c b++[AV.agg [AV.int .i64 c,AV.int .i64 ((l.getD (xaR l a d e i c b).toNat .top).cells.getD 0 .top).toInt]])) δ)) (κl (a,((xaN l a d e i c b).fst),(((xaN l a d e i c b).snd).fst),xaR l a d e i c b,((l.getD (xaR l a d e i c b).toNat .top).cells.getD 0 .top).toInt,xaP l a d e i c b))) δ) δ) (br (xmD l a d e i c b) (br (decide ((↑a:Int)>0)) (br (xgT a) (br (xgS l a d e i c b&&xH4 (Sh.int .i64) (((xaP l a d e i c b).getD (xbk a) .top).cells.getD 1 .top)) (br ((((xaP l a d e i c b).getD (xbk a) .top).cells.getD 1 .top).toInt==c) (br (xgT a) (br (xgS l a d e i c b) (κl (a,((xaN l a d e i c b).fst),(((xaN l a d e i c b).snd).fst),xaR l a d e i c b,1099511627776,(xaP l a d e i c b).set (xbk a) (AV.agg (List.take 1 ((xaP l a d e i c b).getD (xbk a) .top).cells++[AV.int .i64 1099511627776]++List.drop 2 ((xaP l a d e i c b).getD (xbk a) .top).cells)))) δ) δ) (br (a==(xaP l a d e i c b).length&&(decide ((a+1)*16<=140737488355328)&&decide (a+1<=4611686018427387904))) (κl (a+1,((xaN l a d e i c b).fst),(((xaN l a d e i c b).snd).fst),xaR l a d e i c b,1099511627776,xaP l a d e i c b++[AV.agg [AV.int .i64 c,AV.int .i64 1099511627776]])) δ)) δ) δ) (br (a==(xaP l a d e i c b).length&&(decide ((a+1)*16<=140737488355328)&&decide (a+1<=4611686018427387904))) (κl (a+1,((xaN l a d e i c b).fst),(((xaN l a d e i c b).snd).fst),xaR l a d e i c b,1099511627776,xaP l a d e i c b++[AV.agg [AV.int .i64 c,AV.int .i64 1099511627776]])) δ)) (κl (a,((xaN l a d e i c b).fst),(((xaN l a d e i c b).snd).fst),xaR l a d e i c b,1099511627776,xaP l a d e i c b)))) δ) (κr (a,b))
def xlH (l:LA):StT (Nat×Int×Int×Int×Int×LA) (Nat×LA):=fun (b,d,e,i,c,a)=>xm5 l b d e i c a none inL inR
def xmC:=xu2.l 92 0 [] [(6,xgU.lp)] Tryz.f92 0 (lk1 xgU.ok) [2,7,8,9,10,11,12] [8] [(8,2,52)] (q7 (xIt 98 xIR) (qL 3) (xI0 0 0 0) qI qI qI qI) (q1 (qB 0 2 52 xIT)) (fun (_,l,b,d,e,i,c,_) (a,_)=>(xlH l,(b,d,e,i,c,a),fun p=>(.leaf (.exit 0) [AV.osl 0 0 0 p.1] [bF 0 2 52 p.2]))) (0,[]) fun (_,l,_,_,_,_,_,_) _ (b,d,e,i,c,a)=>((((),l,b,d,e,i,c,()),(a,())),xm5 l b d e i c a none)
def xou (a b:LA):=Iter (xlH ((xgO a b).getD [])) (0,0,0,0,0,[])
def xiP (a b:LA):=(xou a b).getD (0,[])
def xo9 {T:Type} (a b:LA) (δ:T) (κ:LA->T):T:=br ((xgO a b).isSome) (br ((xou a b).isSome) (br (decide (0+((xiP a b).fst)<=((xiP a b).snd).length)&&true) (κ (List.take ((xiP a b).fst) (List.drop 0 ((xiP a b).snd)))) δ) δ) δ
def xn6 (a b:LA):=xo9 a b none some
def xEp:EO:=xu2.f Tryz.func92 92 0 [] [(6,xgU.lp),(5,xmC.lp)] (lks (lkC xmC.ok (lkC xgU.ok lkN))) (u3 (uL 2) (uL 2) (sEq (xIt (98:FuncId) xIR))) (fun (a,b,_,_) _=>xo9 a b) (fun _ p=>AV.list 2 p) []
def xlF {T:Type} (a b:LA) (δ:T) (κ:LA->T):T:=br ((xn6 a b).isSome) (κ ((xn6 a b).getD [])) δ
def xft (a b:LA):=xlF a b none some
def xu3:EO:=xEp.f Tryz.func63 8 0 [] [] lk0 (u2 (uL 2) (uL 2)) (fun (a,b,_) _=>xlF a b) (fun _ p=>AV.list 2 p) []
def xe8 {T:Type} (h:LA) (i j:Int) (e:LA) (f:Int) (d:Nat) (c:Int) (a b g:LA) (δ:T) (κl:(Nat×Int×LA×LA×LA)->T) (κr:(Nat×LA)->T):T:=br (decide (c<f)) (br (ixI e c) (br (ixT e c 2 [Sh.int .i64,Sh.int .i64] 0) (br (decide (b.length*32<=140737488355328)&&decide (b.length<=4611686018427387904)) (br (decide (0+b.length<=b.length)&&true&&true&&true&&true) (br (rmB d a 1 40) (κl (d+1,i64.wrap (c+1),a++[AV.agg [AV.list 3 (List.take b.length (List.drop 0 b)),AV.int .i64 (gC e c 0).toInt,AV.int .i64 (gC e c 1).toInt]],b,g)) δ) δ) δ) δ) δ) (κr (d,a))
def xce (c:LA) (d e:Int) (f:LA) (g:Int):StT (Nat×Int×LA×LA×LA) (Nat×LA):=fun (b,h,a,i,j)=>xe8 c d e f g b h a i j none inL inR
def xeQ:=xu3.l 38 0 [54] [] Tryz.f89 1 lk0 [1,5,7,11,12,13,20,21,22] [1,5,11,12,13] [(5,3,54)] (q9 (xIt 115 xIR) (xI0 0 0 0) (xI1 1 0 0 0) (qL 2) qI qI (qL 2) qI qI) (q2 (qB 0 3 54 xIT) (qB 0 2 148 (q1 (xI2 (q2 (qL 3) (qL 2)))))) (fun (_,b,_,c,d,e,f,g,h,_) (a,((i,j,_),_),_)=>(xce c d e f g,(b,h,a,i,j),fun p=>(.leaf (.exit 2) [AV.func 115 [],AV.osl 0 0 0 p.1,AV.list 2 c,AV.int .i64 d,AV.int .i64 e] [bF 0 3 54 p.2]))) (0,[]) fun (_,_,_,c,d,e,f,g,_,_) _ (b,h,a,i,j)=>((((),b,(),c,d,e,f,g,h,()),(a,((i,j,()),()),())),xe8 c d e f g b h a i j none)
def xeP (a:LA) (e:Int) (d:Nat) (b:Int) (c:LA):=Iter (xce a e b ((xfp (gC a b 1).toList).getD []) (↑((xfp (gC a b 1).toList).getD []).length:Int)) (d,0,c,(gC a b 0).toList,(gC a b 1).toList)
def xe7 {T:Type} (d:LA) (e:Int) (c:Nat) (b:Int) (a:LA) (δ:T) (κl:(Nat×Int×LA)->T) (κr:(Nat×LA)->T):T:=br (decide (b<e)) (br (ixI d b) (br (ixT d b 2 [Sh.list 3,Sh.list 2] 0) (br ((xfp (gC d b 1).toList).isSome) (br ((xeP d e c b a).isSome) (κl (((xeP d e c b a).getD (0,[])).fst,i64.wrap (b+1),((xeP d e c b a).getD (0,[])).snd)) δ) δ) δ) δ) (κr (c,a))
def xc4 (c:LA) (d:Int):StT (Nat×Int×LA) (Nat×LA):=fun (b,e,a)=>xe7 c d b e a none inL inR
def xj4:=xu3.l 38 0 [54] [(6,xeQ.lp)] Tryz.f89 0 (lk1 xeQ.ok) [1,5,11,12,13] [5] [(5,3,54)] (q5 (xIt 115 xIR) (xI0 0 0 0) (qL 2) qI qI) (q1 (qB 0 3 54 xIT)) (fun (_,b,c,d,e,_) (a,_)=>(xc4 c d,(b,e,a),fun p=>(.leaf (.exit 0) [AV.osl 0 0 0 p.1] [bF 0 3 54 p.2]))) (0,[]) fun (_,_,c,d,_,_) _ (b,e,a)=>((((),b,c,d,e,()),(a,())),xe7 c d b e a none)
def xid (l:LA):=Iter (xc4 ((xer l).getD []) (↑((xer l).getD []).length:Int)) (0,0,[])
def xez (l:LA):=(xid l).getD (0,[])
def xiW {T:Type} (l:LA) (δ:T) (κ:LA->T):T:=br ((xer l).isSome) (br ((xid l).isSome) (br (decide (0+((xez l).fst)<=((xez l).snd).length)&&true) (κ (List.take ((xez l).fst) (List.drop 0 ((xez l).snd)))) δ) δ) δ
def xkq (l:LA):=xiW l none some
def xEq:EO:=xu3.f Tryz.func89 38 0 [54] [(6,xeQ.lp),(3,xj4.lp)] (lks (lkC xj4.ok (lkC xeQ.ok lkN))) (u2 (uL 3) (sEq (xIt (115:FuncId) xIR))) (fun (l,_,_) _=>xiW l) (fun _ p=>AV.list 3 p) []
def xlX {T:Type} (l:LA) (δ:T) (κ:LA->T):T:=br ((xkq l).isSome) (κ ((xkq l).getD [])) δ
def xcd (l:LA):=xlX l none some
def xu4:EO:=xEq.f Tryz.func78 5 0 [] [] lk0 (u1 (uL 3)) (fun (l,_) _=>xlX l) (fun _ p=>AV.list 3 p) []
def xkG {T:Type} (h:LA) (i j:Int) (e:LA) (f:Int) (d:Nat) (c:Int) (a b g:LA) (δ:T) (κl:(Nat×Int×LA×LA×LA)->T) (κr:(Nat×LA)->T):T:=br (decide (c<f)) (br (ixI e c) (br (ixT e c 2 [Sh.int .i64,Sh.int .i64] 0) (br (decide (b.length*32<=140737488355328)&&decide (b.length<=4611686018427387904)) (br (decide (0+b.length<=b.length)&&true&&true&&true&&true) (br (rmB d a 1 40) (κl (d+1,i64.wrap (c+1),a++[AV.agg [AV.list 3 (List.take b.length (List.drop 0 b)),AV.int .i64 (gC e c 0).toInt,AV.int .i64 (gC e c 1).toInt]],b,g)) δ) δ) δ) δ) δ) (κr (d,a))
def xfX (c:LA) (d e:Int) (f:LA) (g:Int):StT (Nat×Int×LA×LA×LA) (Nat×LA):=fun (b,h,a,i,j)=>xkG c d e f g b h a i j none inL inR
def xeS:=xu4.l 38 0 [54] [] Tryz.f89 1 lk0 [1,5,7,11,12,13,20,21,22] [1,5,11,12,13] [(5,3,54)] (q9 (xIt 61 xIR) (xI0 0 0 0) (xI1 1 0 0 0) (qL 2) qI qI (qL 2) qI qI) (q2 (qB 0 3 54 xIT) (qB 0 2 148 (q1 (xI2 (q2 (qL 3) (qL 2)))))) (fun (_,b,_,c,d,e,f,g,h,_) (a,((i,j,_),_),_)=>(xfX c d e f g,(b,h,a,i,j),fun p=>(.leaf (.exit 2) [AV.func 61 [],AV.osl 0 0 0 p.1,AV.list 2 c,AV.int .i64 d,AV.int .i64 e] [bF 0 3 54 p.2]))) (0,[]) fun (_,_,_,c,d,e,f,g,_,_) _ (b,h,a,i,j)=>((((),b,(),c,d,e,f,g,h,()),(a,((i,j,()),()),())),xkG c d e f g b h a i j none)
def xeR (a:LA) (e:Int) (d:Nat) (b:Int) (c:LA):=Iter (xfX a e b ((xib (gC a b 1).toList).getD []) (↑((xib (gC a b 1).toList).getD []).length:Int)) (d,0,c,(gC a b 0).toList,(gC a b 1).toList)
def xe9 {T:Type} (d:LA) (e:Int) (c:Nat) (b:Int) (a:LA) (δ:T) (κl:(Nat×Int×LA)->T) (κr:(Nat×LA)->T):T:=br (decide (b<e)) (br (ixI d b) (br (ixT d b 2 [Sh.list 3,Sh.list 2] 0) (br ((xib (gC d b 1).toList).isSome) (br ((xeR d e c b a).isSome) (κl (((xeR d e c b a).getD (0,[])).fst,i64.wrap (b+1),((xeR d e c b a).getD (0,[])).snd)) δ) δ) δ) δ) (κr (c,a))
def xc5 (c:LA) (d:Int):StT (Nat×Int×LA) (Nat×LA):=fun (b,e,a)=>xe9 c d b e a none inL inR
def xj5:=xu4.l 38 0 [54] [(6,xeS.lp)] Tryz.f89 0 (lk1 xeS.ok) [1,5,11,12,13] [5] [(5,3,54)] (q5 (xIt 61 xIR) (xI0 0 0 0) (qL 2) qI qI) (q1 (qB 0 3 54 xIT)) (fun (_,b,c,d,e,_) (a,_)=>(xc5 c d,(b,e,a),fun p=>(.leaf (.exit 0) [AV.osl 0 0 0 p.1] [bF 0 3 54 p.2]))) (0,[]) fun (_,_,c,d,_,_) _ (b,e,a)=>((((),b,c,d,e,()),(a,())),xe9 c d b e a none)
def xie (l:LA):=Iter (xc5 ((xer l).getD []) (↑((xer l).getD []).length:Int)) (0,0,[])
def xeA (l:LA):=(xie l).getD (0,[])
def xiX {T:Type} (l:LA) (δ:T) (κ:LA->T):T:=br ((xer l).isSome) (br ((xie l).isSome) (br (decide (0+((xeA l).fst)<=((xeA l).snd).length)&&true) (κ (List.take ((xeA l).fst) (List.drop 0 ((xeA l).snd)))) δ) δ) δ
def xkr (l:LA):=xiX l none some
def xEr:EO:=xu4.f Tryz.func89 38 0 [54] [(6,xeS.lp),(3,xj5.lp)] (lks (lkC xj5.ok (lkC xeS.ok lkN))) (u2 (uL 3) (sEq (xIt (61:FuncId) xIR))) (fun (l,_,_) _=>xiX l) (fun _ p=>AV.list 3 p) []
def xlY {T:Type} (l:LA) (δ:T) (κ:LA->T):T:=br ((xkr l).isSome) (κ ((xkr l).getD [])) δ
def xhp (l:LA):=xlY l none some
def xEs:EO:=xEr.f Tryz.func55 5 0 [] [] lk0 (u1 (uL 3)) (fun (l,_) _=>xlY l) (fun _ p=>AV.list 3 p) []
def xlO (a b:Int):Int:=((a))
def xwe {T:Type} (a b:Int) (δ:T) (κ:Int->T):T:=κ (a)
def xzS:EO:=xEs.fT Tryz.func118 5 0 [] [] lk0 (fun ((a,b,_),_)=>xwe a b none) (u1 (xI5 (u2 uI uI))) (fun ((a,b,_),_)=>xlO a b) (fun _ p=>(AV.int .i64 p))
def xm8 (b:Nat) (a:LA):=decide (0+(i64.wrap ((↑b:Int) - 1)).toNat<a.length)&&xH4 (Sh.int .i64) ((a.getD (0+(i64.wrap ((↑b:Int) - 1)).toNat) .top).cells.getD 0 .top)
def xm9 (a:Nat):=decide (0<=i64.wrap ((↑a:Int) - 1))&&decide (i64.wrap ((↑a:Int) - 1)<(↑a:Int))
def xhk (b:LA) (k:Int):=decide (k.toNat<b.length)&&((b.getD k.toNat .top).cells.length==2&&xIb [Sh.int .i64,Sh.int .i64] (b.getD k.toNat .top).cells 0)
def xhl (a:LA) (i:Int):=decide (i.toNat<a.length)&&((a.getD i.toNat .top).cells.length==2&&xIb [Sh.int .i64,Sh.int .i64] (a.getD i.toNat .top).cells 0)
def xhm (b:LA) (k:Int):=ixI b k
def xhn (a:LA) (i:Int):=ixI a i
def xna (a:Nat):=(↑a:Int)==0
def xe2 (b:LA) (k:Int):=xlO (gC b k 0).toInt (gC b k 1).toInt
def xe3 (a:LA) (i:Int):=xlO (gC a i 0).toInt (gC a i 1).toInt
def xj1 (a:LA) (c:Nat) (i:Int) (b:LA):=((b.getD (0+(i64.wrap ((↑c:Int) - 1)).toNat) .top).cells.getD 0 .top).toInt != xe3 a i
def xj2 (b:LA) (c:Nat) (k:Int) (a:LA):=((a.getD (0+(i64.wrap ((↑c:Int) - 1)).toNat) .top).cells.getD 0 .top).toInt != xe2 b k
def xfw (a b:LA) (i k:Int):=decide (xe3 a i<=xe2 b k)
def xe0 {T:Type} (a:LA) (c:Nat) (i k:Int) (b:LA) (δ:T) (κl:(Nat×Int×Int×LA)->T):T:=br (rmB c b 1 8) (κl (c+1,i64.wrap (i+1),k,b++[AV.int .i64 (xe3 a i)])) δ
def xeZ {T:Type} (a:LA) (b:Nat) (i k:Int) (c:LA) (δ:T) (κl:(Nat×Int×Int×LA)->T):T:=br (xhn a i) (br (xhl a i) (br (xna b) (xe0 a b i k c δ κl) (br (xm9 b) (br (xm8 b c) (br (xj1 a b i c) (xe0 a b i k c δ κl) (κl (b,i64.wrap (i+1),k,c))) δ) δ)) δ) δ
def xe1 {T:Type} (b:LA) (c:Nat) (i k:Int) (a:LA) (δ:T) (κl:(Nat×Int×Int×LA)->T):T:=br (rmB c a 1 8) (κl (c+1,i,i64.wrap (k+1),a++[AV.int .i64 (xe2 b k)])) δ
def xex {T:Type} (b:LA) (a:Nat) (i k:Int) (c:LA) (δ:T) (κl:(Nat×Int×Int×LA)->T):T:=br (xhm b k) (br (xhk b k) (br (xna a) (xe1 b a i k c δ κl) (br (xm9 a) (br (xm8 a c) (br (xj2 b a k c) (xe1 b a i k c δ κl) (κl (a,i,i64.wrap (k+1),c))) δ) δ)) δ) δ
def xeY {T:Type} (a b:LA) (d:Nat) (i k:Int) (c:LA) (δ:T) (κl:(Nat×Int×Int×LA)->T):T:=br (k==(↑b.length:Int)) (xeZ a d i k c δ κl) (br (decide (i<a.length)) (br (xhn a i) (br (xhl a i) (br (xhm b k) (br (xhk b k) (br (xfw a b i k) (xeZ a d i k c δ κl) (xex b d i k c δ κl)) δ) δ) δ) δ) (xex b d i k c δ κl))
def xf5 {T:Type} (a b:LA) (d:Nat) (i k:Int) (c:LA) (δ:T) (κl:(Nat×Int×Int×LA)->T) (κr:(Nat×LA)->T):T:=br (decide (i<a.length)) (xeY a b d i k c δ κl) (br (decide (k<b.length)) (xeY a b d i k c δ κl) (κr (d,c)))
def xbP (a b:LA):StT (Nat×Int×Int×LA) (Nat×LA):=fun (d,i,k,c)=>xf5 a b d i k c none inL inR
def xm7:=xzS.l 83 0 [] [] Tryz.f117 0 lk0 [0,1,2,3,9,10,11] [9] [(9,1,3)] (q7 (qL 2) (qL 2) (xIt 118 xIR) (xIt 118 xIR) (xI0 0 0 0) qI qI) (q1 (qB 0 1 3 xIT)) (fun (a,b,_,_,d,i,k,_) (c,_)=>(xbP a b,(d,i,k,c),fun p=>(.leaf (.exit 0) [AV.osl 0 0 0 p.1] [bF 0 1 3 p.2]))) (0,[]) fun (a,b,_,_,_,_,_,_) _ (d,i,k,c)=>(((a,b,(),(),d,i,k,()),(c,())),xf5 a b d i k c none)
def xfV (a b:LA):=Iter (xbP a b) (0,0,0,[])
def xmZ {T:Type} (a b:LA) (δ:T) (κ:LA->T):T:=br ((xfV a b).isSome) (br (decide (0+(((xfV a b).getD (0,[])).fst)<=(((xfV a b).getD (0,[])).snd).length)&&true) (κ (List.take (((xfV a b).getD (0,[])).fst) (List.drop 0 (((xfV a b).getD (0,[])).snd)))) δ) δ
def xb7 (a b:LA):=xmZ a b none some
def xD9:EO:=xzS.f Tryz.func117 83 0 [] [(3,xm7.lp)] (lk1 xm7.ok) (u4 (uL 2) (uL 2) (sEq (xIt (118:FuncId) xIR)) (sEq (xIt (118:FuncId) xIR))) (fun (a,b,_,_,_) _=>xmZ a b) (fun _ p=>AV.list 1 p) []
def xg2 (a b t:Int):Int:=((xdg a t))
def xuY {T:Type} (a b t:Int) (δ:T) (κ:Int->T):T:=κ (xdg a t)
def xzT:EO:=xD9.fT Tryz.func170 9 0 [] [] lk0 (fun ((a,b,_),t,_)=>xuY a b t none) (u2 (xI5 (u2 uI uI)) uI) (fun ((a,b,_),t,_)=>xg2 a b t) (fun _ p=>(AV.int .i64 p))
def xa7 (i j:Int):=i64.wrap ((u64.wrap (i64.wrap (i+j))).fdiv 2)
def xbC (x:LA) (i j:Int):=(x.getD (xa7 i j).toNat .top).cells
def xbH {T:Type} (x:LA) (a n i j:Int) (δ:T) (κl:(Int×Int)->T) (κr:(Int)->T):T:=br (decide (i<j)) (br (decide (0<=xa7 i j)&&decide (xa7 i j<x.length)) (br (decide ((xa7 i j).toNat<x.length)&&((xbC x i j).length==2&&xIb [Sh.int .i64,Sh.int .i64] (xbC x i j) 0)) (br (decide (xg2 ((xbC x i j).getD 0 .top).toInt ((xbC x i j).getD 1 .top).toInt a<0)) (κl (i64.wrap (xa7 i j+1),j)) (κl (i,xa7 i j))) δ) δ) (κr (i))
def xaU (x:LA) (a n:Int):StT (Int×Int) (Int):=fun (i,j)=>xbH x a n i j none inL inR
def xg5:=xzT.l 49 0 [] [] Tryz.f169 0 lk0 [0,1,2,8,9,10] [0,1,2,8,9] [] (q6 (qL 2) qI (xIt 170 xIR) qI qI qI) xIR (fun (x,a,_,n,i,j,_) _=>(xaU x a n,(i,j),fun p=>(.leaf (.exit 0) [AV.list 2 x,AV.int .i64 a,AV.func 170 [],AV.int .i64 n,AV.int .i64 p] []))) 0 fun (x,a,_,n,_,_,_) _ (i,j)=>(((x,a,(),n,i,j,()),()),xbH x a n i j none)
def xa8 (l:LA) (t:Int):=(Iter (xaU l t (↑l.length:Int)) (0,(↑l.length:Int))).getD 0
def xbY (l:LA) (t:Int):=(l.getD (xa8 l t).toNat .top).cells
def xd9 {T:Type} (l:LA) (t:Int) (δ:T) (κ:Int×Bool->T):T:=br ((Iter (xaU l t (↑l.length:Int)) (0,(↑l.length:Int))).isSome) (br (decide (xa8 l t<l.length)) (br (decide (0<=xa8 l t)&&decide (xa8 l t<l.length)) (br (decide ((xa8 l t).toNat<l.length)&&((xbY l t).length==2&&xIb [Sh.int .i64,Sh.int .i64] (xbY l t) 0)) (κ (xa8 l t,xg2 ((xbY l t).getD 0 .top).toInt ((xbY l t).getD 1 .top).toInt t==0)) δ) δ) (κ (xa8 l t,false))) δ
def xcv (l:LA) (t:Int):=xd9 l t none some
def xEa:EO:=xzT.f Tryz.func169 49 0 [] [(3,xg5.lp)] (lk1 xg5.ok) (u3 (uL 2) uI (sEq (xIt (170:FuncId) xIR))) (fun (l,t,_,_) _=>xd9 l t) (fun _ p=>AV.tuple [AV.int .i64 p.1,AV.bool p.2]) (0,false)
def xlN {T:Type} (l:LA) (t:Int) (δ:T) (κ:Int->T):T:=br ((xcv l t).isSome) (br (((xcv l t).getD (0,false)).snd) (κ (((xcv l t).getD (0,false)).fst)) (κ (i64.wrap (((xcv l t).getD (0,false)).fst - 1)))) δ
def xem (l:LA) (t:Int):=xlN l t none some
def xEb:EO:=xEa.f Tryz.func140 17 0 [] [] lk0 (u2 (uL 2) uI) (fun (l,t,_) _=>xlN l t) (fun _ p=>AV.int .i64 p) 0
def xnl {T:Type} (l:LA) (t:Int) (δ:T) (κ:Int->T):T:=br (decide (t<0)) (κ (0)) (br (decide (t>=1099511627776)) (κ (0)) (br ((xem l t).isSome) (br (decide ((xem l t).getD 0<0)) (κ (0)) (br (decide (0<=(xem l t).getD 0)&&decide ((xem l t).getD 0<(↑l.length:Int))) (br (decide (((xem l t).getD 0).toNat<l.length)&&xH4 (Sh.int .i64) ((l.getD ((xem l t).getD 0).toNat .top).cells.getD 1 .top)) (κ (((l.getD ((xem l t).getD 0).toNat .top).cells.getD 1 .top).toInt)) δ) δ)) δ))
def xb6 (l:LA) (t:Int):=xnl l t none some
def xEc:EO:=xEb.f Tryz.func119 22 0 [] [] lk0 (u2 (uL 2) uI) (fun (l,t,_) _=>xnl l t) (fun _ p=>AV.int .i64 p) 0
def xlI (x y:Int):Int:=((i64.wrap (x+y)))
def xwb {T:Type} (x y:Int) (δ:T) (κ:Int->T):T:=κ (i64.wrap (x+y))
def xEd:EO:=xEc.fT Tryz.func80 8 0 [] [] lk0 (fun (x,y,_)=>xwb x y none) (u2 uI uI) (fun (x,y,_)=>xlI x y) (fun _ p=>(AV.int .i64 p))
def xlM (x y:Int):Int:=((i64.wrap (x - y)))
def xwd {T:Type} (x y:Int) (δ:T) (κ:Int->T):T:=κ (i64.wrap (x - y))
def xEe:EO:=xEd.fT Tryz.func82 8 0 [] [] lk0 (fun (x,y,_)=>xwd x y none) (u2 uI uI) (fun (x,y,_)=>xlM x y) (fun _ p=>(AV.int .i64 p))
def xlL (x y:Int):Int:=((if y<x then y else x))
def xwc {T:Type} (x y:Int) (δ:T) (κ:Int->T):T:=κ (if y<x then y else x)
def xEf:EO:=xEe.fT Tryz.func88 8 0 [] [] lk0 (fun (x,y,_)=>xwc x y none) (u2 uI uI) (fun (x,y,_)=>xlL x y) (fun _ p=>(AV.int .i64 p))
def xkd (x a:Int):Int:=((if 0>x then 0 else x))
def xuX {T:Type} (x a:Int) (δ:T) (κ:Int->T):T:=κ (if 0>x then 0 else x)
def xzU:EO:=xEf.fT Tryz.func81 7 0 [] [] lk0 (fun (x,a,_)=>xuX x a none) (u2 uI uI) (fun (x,a,_)=>xkd x a) (fun _ p=>(AV.int .i64 p))
def xhI (a b c:LA) (f:Nat) (d:Int) (e:LA):=xbB f (gC c d 0).toInt (xlI ((xb6 a (gC c d 0).toInt).getD 0) ((xb6 b (gC c d 0).toInt).getD 0)) e
def xck (a b e:LA) (d:Nat) (f:Int) (c:LA):=(xhI a b e d f c).getD (false,(0,[]),0,[])
def xfK {T:Type} (a b f:LA) (g:Int) (d:Nat) (e:Int) (c:LA) (δ:T) (κl:(Nat×Int×LA)->T) (κr:(Nat×LA)->T):T:=br (decide (e<g)) (br (ixI f e) (br (ixS f e (Sh.int .i64) 0) (br ((xb6 a (gC f e 0).toInt).isSome) (br ((xb6 b (gC f e 0).toInt).isSome) (br ((xhI a b f d e c).isSome) (κl (br ((xck a b f d e c).fst) (((xck a b f d e c).snd).fst).fst (((xck a b f d e c).snd).snd).fst,i64.wrap (e+1),br ((xck a b f d e c).fst) (((xck a b f d e c).snd).fst).snd (((xck a b f d e c).snd).snd).snd)) δ) δ) δ) δ) δ) (κr (d,c))
def xcy (a b e:LA) (f:Int):StT (Nat×Int×LA) (Nat×LA):=fun (d,g,c)=>xfK a b e f d g c none inL inR
def xkV:=xzU.l 38 0 [] [] Tryz.f79 0 lk0 [0,1,2,7,12,13,14] [2,7] [(7,2,132)] (q7 (qL 2) (qL 2) (xIt 80 xIR) (xI0 0 0 0) (qL 1) qI qI) (q1 (qB 0 2 132 xIT)) (fun (a,b,_,d,e,f,g,_) (c,_)=>(xcy a b e f,(d,g,c),fun p=>(.leaf (.exit 0) [AV.func 80 [],AV.osl 0 0 0 p.1] [bF 0 2 132 p.2]))) (0,[]) fun (a,b,_,_,e,f,_,_) _ (d,g,c)=>(((a,b,(),d,e,f,g,()),(c,())),xfK a b e f d g c none)
def xjo (a b:LA):=Iter (xcy a b ((xb7 a b).getD []) (↑((xb7 a b).getD []).length:Int)) (0,0,[])
def xd3 (a b:LA):=(xjo a b).getD (0,[])
def xjY {T:Type} (a b:LA) (δ:T) (κ:LA->T):T:=br ((xb7 a b).isSome) (br ((xjo a b).isSome) (br ((↑((xd3 a b).fst):Int)==0) (κ ([AV.agg [AV.int .i64 0,AV.int .i64 0]])) (br (decide (0+((xd3 a b).fst)<=((xd3 a b).snd).length)&&true) (κ (List.take ((xd3 a b).fst) (List.drop 0 ((xd3 a b).snd)))) δ)) δ) δ
def xiQ (a b:LA):=xjY a b none some
def xzV:EO:=xzU.f Tryz.func79 38 0 [] [(3,xkV.lp)] (lk1 xkV.ok) (u3 (uL 2) (uL 2) (sEq (xIt (80:FuncId) xIR))) (fun (a,b,_,_) _=>xjY a b) (fun _ p=>AV.list 2 p) []
def xhL (a b c:LA) (f:Nat) (d:Int) (e:LA):=xbB f (gC c d 0).toInt (xlM ((xb6 a (gC c d 0).toInt).getD 0) ((xb6 b (gC c d 0).toInt).getD 0)) e
def xcn (a b e:LA) (d:Nat) (f:Int) (c:LA):=(xhL a b e d f c).getD (false,(0,[]),0,[])
def xfN {T:Type} (a b f:LA) (g:Int) (d:Nat) (e:Int) (c:LA) (δ:T) (κl:(Nat×Int×LA)->T) (κr:(Nat×LA)->T):T:=br (decide (e<g)) (br (ixI f e) (br (ixS f e (Sh.int .i64) 0) (br ((xb6 a (gC f e 0).toInt).isSome) (br ((xb6 b (gC f e 0).toInt).isSome) (br ((xhL a b f d e c).isSome) (κl (br ((xcn a b f d e c).fst) (((xcn a b f d e c).snd).fst).fst (((xcn a b f d e c).snd).snd).fst,i64.wrap (e+1),br ((xcn a b f d e c).fst) (((xcn a b f d e c).snd).fst).snd (((xcn a b f d e c).snd).snd).snd)) δ) δ) δ) δ) δ) (κr (d,c))
def xcB (a b e:LA) (f:Int):StT (Nat×Int×LA) (Nat×LA):=fun (d,g,c)=>xfN a b e f d g c none inL inR
def xkY:=xzV.l 38 0 [] [] Tryz.f79 0 lk0 [0,1,2,7,12,13,14] [2,7] [(7,2,132)] (q7 (qL 2) (qL 2) (xIt 82 xIR) (xI0 0 0 0) (qL 1) qI qI) (q1 (qB 0 2 132 xIT)) (fun (a,b,_,d,e,f,g,_) (c,_)=>(xcB a b e f,(d,g,c),fun p=>(.leaf (.exit 0) [AV.func 82 [],AV.osl 0 0 0 p.1] [bF 0 2 132 p.2]))) (0,[]) fun (a,b,_,_,e,f,_,_) _ (d,g,c)=>(((a,b,(),d,e,f,g,()),(c,())),xfN a b e f d g c none)
def xjr (a b:LA):=Iter (xcB a b ((xb7 a b).getD []) (↑((xb7 a b).getD []).length:Int)) (0,0,[])
def xd6 (a b:LA):=(xjr a b).getD (0,[])
def xj0 {T:Type} (a b:LA) (δ:T) (κ:LA->T):T:=br ((xb7 a b).isSome) (br ((xjr a b).isSome) (br ((↑((xd6 a b).fst):Int)==0) (κ ([AV.agg [AV.int .i64 0,AV.int .i64 0]])) (br (decide (0+((xd6 a b).fst)<=((xd6 a b).snd).length)&&true) (κ (List.take ((xd6 a b).fst) (List.drop 0 ((xd6 a b).snd)))) δ)) δ) δ
def xiS (a b:LA):=xj0 a b none some
def xzW:EO:=xzV.f Tryz.func79 38 0 [] [(3,xkY.lp)] (lk1 xkY.ok) (u3 (uL 2) (uL 2) (sEq (xIt (82:FuncId) xIR))) (fun (a,b,_,_) _=>xj0 a b) (fun _ p=>AV.list 2 p) []
def xhK (a b c:LA) (f:Nat) (d:Int) (e:LA):=xbB f (gC c d 0).toInt (xlL ((xb6 a (gC c d 0).toInt).getD 0) ((xb6 b (gC c d 0).toInt).getD 0)) e
def xcm (a b e:LA) (d:Nat) (f:Int) (c:LA):=(xhK a b e d f c).getD (false,(0,[]),0,[])
def xfM {T:Type} (a b f:LA) (g:Int) (d:Nat) (e:Int) (c:LA) (δ:T) (κl:(Nat×Int×LA)->T) (κr:(Nat×LA)->T):T:=br (decide (e<g)) (br (ixI f e) (br (ixS f e (Sh.int .i64) 0) (br ((xb6 a (gC f e 0).toInt).isSome) (br ((xb6 b (gC f e 0).toInt).isSome) (br ((xhK a b f d e c).isSome) (κl (br ((xcm a b f d e c).fst) (((xcm a b f d e c).snd).fst).fst (((xcm a b f d e c).snd).snd).fst,i64.wrap (e+1),br ((xcm a b f d e c).fst) (((xcm a b f d e c).snd).fst).snd (((xcm a b f d e c).snd).snd).snd)) δ) δ) δ) δ) δ) (κr (d,c))
def xcA (a b e:LA) (f:Int):StT (Nat×Int×LA) (Nat×LA):=fun (d,g,c)=>xfM a b e f d g c none inL inR
def xkX:=xzW.l 38 0 [] [] Tryz.f79 0 lk0 [0,1,2,7,12,13,14] [2,7] [(7,2,132)] (q7 (qL 2) (qL 2) (xIt 88 xIR) (xI0 0 0 0) (qL 1) qI qI) (q1 (qB 0 2 132 xIT)) (fun (a,b,_,d,e,f,g,_) (c,_)=>(xcA a b e f,(d,g,c),fun p=>(.leaf (.exit 0) [AV.func 88 [],AV.osl 0 0 0 p.1] [bF 0 2 132 p.2]))) (0,[]) fun (a,b,_,_,e,f,_,_) _ (d,g,c)=>(((a,b,(),d,e,f,g,()),(c,())),xfM a b e f d g c none)
def xjq (a b:LA):=Iter (xcA a b ((xb7 a b).getD []) (↑((xb7 a b).getD []).length:Int)) (0,0,[])
def xd5 (a b:LA):=(xjq a b).getD (0,[])
def xjx {T:Type} (a b:LA) (δ:T) (κ:LA->T):T:=br ((xb7 a b).isSome) (br ((xjq a b).isSome) (br ((↑((xd5 a b).fst):Int)==0) (κ ([AV.agg [AV.int .i64 0,AV.int .i64 0]])) (br (decide (0+((xd5 a b).fst)<=((xd5 a b).snd).length)&&true) (κ (List.take ((xd5 a b).fst) (List.drop 0 ((xd5 a b).snd)))) δ)) δ) δ
def xiR (a b:LA):=xjx a b none some
def xzX:EO:=xzW.f Tryz.func79 38 0 [] [(3,xkX.lp)] (lk1 xkX.ok) (u3 (uL 2) (uL 2) (sEq (xIt (88:FuncId) xIR))) (fun (a,b,_,_) _=>xjx a b) (fun _ p=>AV.list 2 p) []
def xhJ (a b c:LA) (f:Nat) (d:Int) (e:LA):=xbB f (gC c d 0).toInt (xkd ((xb6 a (gC c d 0).toInt).getD 0) ((xb6 b (gC c d 0).toInt).getD 0)) e
def xcl (a b e:LA) (d:Nat) (f:Int) (c:LA):=(xhJ a b e d f c).getD (false,(0,[]),0,[])
def xfL {T:Type} (a b f:LA) (g:Int) (d:Nat) (e:Int) (c:LA) (δ:T) (κl:(Nat×Int×LA)->T) (κr:(Nat×LA)->T):T:=br (decide (e<g)) (br (ixI f e) (br (ixS f e (Sh.int .i64) 0) (br ((xb6 a (gC f e 0).toInt).isSome) (br ((xb6 b (gC f e 0).toInt).isSome) (br ((xhJ a b f d e c).isSome) (κl (br ((xcl a b f d e c).fst) (((xcl a b f d e c).snd).fst).fst (((xcl a b f d e c).snd).snd).fst,i64.wrap (e+1),br ((xcl a b f d e c).fst) (((xcl a b f d e c).snd).fst).snd (((xcl a b f d e c).snd).snd).snd)) δ) δ) δ) δ) δ) (κr (d,c))
def xcz (a b e:LA) (f:Int):StT (Nat×Int×LA) (Nat×LA):=fun (d,g,c)=>xfL a b e f d g c none inL inR
def xkW:=xzX.l 38 0 [] [] Tryz.f79 0 lk0 [0,1,2,7,12,13,14] [2,7] [(7,2,132)] (q7 (qL 2) (qL 2) (xIt 81 xIR) (xI0 0 0 0) (qL 1) qI qI) (q1 (qB 0 2 132 xIT)) (fun (a,b,_,d,e,f,g,_) (c,_)=>(xcz a b e f,(d,g,c),fun p=>(.leaf (.exit 0) [AV.func 81 [],AV.osl 0 0 0 p.1] [bF 0 2 132 p.2]))) (0,[]) fun (a,b,_,_,e,f,_,_) _ (d,g,c)=>(((a,b,(),d,e,f,g,()),(c,())),xfL a b e f d g c none)
def xjp (a b:LA):=Iter (xcz a b ((xb7 a b).getD []) (↑((xb7 a b).getD []).length:Int)) (0,0,[])
def xd4 (a b:LA):=(xjp a b).getD (0,[])
def xjZ {T:Type} (a b:LA) (δ:T) (κ:LA->T):T:=br ((xb7 a b).isSome) (br ((xjp a b).isSome) (br ((↑((xd4 a b).fst):Int)==0) (κ ([AV.agg [AV.int .i64 0,AV.int .i64 0]])) (br (decide (0+((xd4 a b).fst)<=((xd4 a b).snd).length)&&true) (κ (List.take ((xd4 a b).fst) (List.drop 0 ((xd4 a b).snd)))) δ)) δ) δ
def xgX (a b:LA):=xjZ a b none some
def xEg:EO:=xzX.f Tryz.func79 38 0 [] [(3,xkW.lp)] (lk1 xkW.ok) (u3 (uL 2) (uL 2) (sEq (xIt (81:FuncId) xIR))) (fun (a,b,_,_) _=>xjZ a b) (fun _ p=>AV.list 2 p) []
def xoO {T:Type} (a b:LA) (δ:T) (κ:LA->T):T:=br ((xiQ a b).isSome) (κ ((xiQ a b).getD [])) δ
def xmE (a b:LA):=xoO a b none some
def xEh:EO:=xEg.f Tryz.func43 8 0 [] [] lk0 (u2 (uL 2) (uL 2)) (fun (a,b,_) _=>xoO a b) (fun _ p=>AV.list 2 p) []
def xoS {T:Type} (a b:LA) (δ:T) (κ:LA->T):T:=br ((xiS a b).isSome) (κ ((xiS a b).getD [])) δ
def xmH (a b:LA):=xoS a b none some
def xC0:EO:=xEh.f Tryz.func47 8 0 [] [] lk0 (u2 (uL 2) (uL 2)) (fun (a,b,_) _=>xoS a b) (fun _ p=>AV.list 2 p) []
def xoP {T:Type} (a b:LA) (δ:T) (κ:LA->T):T:=br ((xiR a b).isSome) (κ ((xiR a b).getD [])) δ
def xmG (a b:LA):=xoP a b none some
def xC1:EO:=xC0.f Tryz.func53 8 0 [] [] lk0 (u2 (uL 2) (uL 2)) (fun (a,b,_) _=>xoP a b) (fun _ p=>AV.list 2 p) []
def xn7 {T:Type} (l:LA) (δ:T) (κ:LA->T):T:=br ((xgX l []).isSome) (κ ((xgX l []).getD [])) δ
def xnm (l:LA):=xn7 l none some
def xC2:EO:=xC1.f Tryz.func46 5 0 [] [] lk0 (u1 (uL 2)) (fun (l,_) _=>xn7 l) (fun _ p=>AV.list 2 p) []
def xkA {T:Type} (x y:LA) (δ:T) (κ:LA->T):T:=br ((xmH x y).isSome) (br ((xnm ((xmH x y).getD [])).isSome) (κ ((xnm ((xmH x y).getD [])).getD [])) δ) δ
def xhz (x y:LA):=xkA x y none some
def xti:EO:=xC2.f Tryz.func45 9 0 [] [] lk0 (u2 (uL 2) (uL 2)) (fun (x,y,_) _=>xkA x y) (fun _ p=>AV.list 2 p) []
def xgy (b a:Bool):Int:=(br (b) (((-1))) (br (a) ((1)) ((0))))
def xvY {T:Type} (b a:Bool) (δ:T) (κ:Int->T):T:=br (b) (κ ((-1))) (br (a) (κ (1)) (κ (0)))
def xEt:EO:=xti.fT Tryz.func134 7 0 [] [] lk0 (fun (b,a,_)=>xvY b a none) (u2 (sEq pBool) (sEq pBool)) (fun (b,a,_)=>xgy b a) (fun _ p=>(AV.int .i64 p))
def xh5 (a b:Int) (c:List UInt8) (d e:Int) (f:List UInt8):Int:=(br (a != d) ((xgy (decide (a<d)) (decide (a>d)))) (br (b != e) ((xgy (decide (b<e)) (decide (b>e)))) ((xgy (Op.bytesLess c f) !(Op.bytesLess c f || c==f)))))
def xsS {T:Type} (a b:Int) (c:List UInt8) (d e:Int) (f:List UInt8) (δ:T) (κ:Int->T):T:=br (a != d) (κ (xgy (decide (a<d)) (decide (a>d)))) (br (b != e) (κ (xgy (decide (b<e)) (decide (b>e)))) (κ (xgy (Op.bytesLess c f) !(Op.bytesLess c f || c==f))))
def xz0:EO:=xEt.fT Tryz.func103 48 0 [] [] lk0 (fun ((a,b,c,_),(d,e,f,_),_)=>xsS a b c d e f none) (u2 (xI5 (u3 uI uI (sEq pStr))) (xI5 (u3 uI uI (sEq pStr)))) (fun ((a,b,c,_),(d,e,f,_),_)=>xh5 a b c d e f) (fun _ p=>(AV.int .i64 p))
def xdH (a b:LA) (i:Int):=xh5 (gC a i 0).toInt (gC a i 1).toInt (gC a i 2).toStr (gC b i 0).toInt (gC b i 1).toInt (gC b i 2).toStr
def xdx {T:Type} (a b:LA) (i:Int) (δ:T) (κl:(Int)->T) (κr:(Bool×(Int)×(Unit))->T):T:=br (decide (i<a.length)) (br (decide (i<b.length)) (br (ixI a i) (br (ixT a i 3 [Sh.int .i64,Sh.int .i64,Sh.str] 0) (br (ixI b i) (br (ixT b i 3 [Sh.int .i64,Sh.int .i64,Sh.str] 0) (br (xdH a b i != 0) (κr (true,(xdH a b i),())) (κl (i64.wrap (i+1)))) δ) δ) δ) δ) (κr (false,0,()))) (κr (false,0,()))
def xbt (a b:LA):StT (Int) (Bool×(Int)×(Unit)):=fun (i)=>xdx a b i none inL inR
def xlV:=xz0.l 41 0 [] [] Tryz.f73 0 lk0 [0,1,5] [0,1,4] [] (q3 (qL 3) (qL 3) qI) xIR (fun (a,b,i,_) _=>(xbt a b,(i),fun p=>(.node p.1 (.leaf .ret [AV.list 3 a,AV.list 3 b,AV.int .i64 p.2.1] []) (.leaf (.exit 0) [AV.list 3 a,AV.list 3 b,.top] [])))) (false,0,()) fun (a,b,_,_) _ (i)=>(((a,b,i,()),()),xdx a b i none)
def xlr {T:Type} (a b:LA) (δ:T) (κ:Int->T):T:=br ((Iter (xbt a b) 0).isSome) (br (((Iter (xbt a b) 0).getD (false,0,())).fst) (κ (((Iter (xbt a b) 0).getD (false,0,())).snd.fst)) (br (decide ((↑a.length:Int)<(↑b.length:Int))) (κ ((-1))) (br (decide ((↑a.length:Int)>(↑b.length:Int))) (κ (1)) (κ (0))))) δ
def xki (a b:LA):=xlr a b none some
def xz1:EO:=xz0.f Tryz.func73 41 0 [] [(2,xlV.lp)] (lk1 xlV.ok) (u2 (uL 3) (uL 3)) (fun (a,b,_) _=>xlr a b) (fun _ p=>AV.int .i64 p) 0
def xfE {T:Type} (a b:LA) (i:Int) (δ:T) (κl:(Int)->T) (κr:(Bool×(Bool)×(Unit))->T):T:=br (decide (i<a.length)) (br (ixI a i) (br (ixT a i 3 [Sh.int .i64,Sh.int .i64] 1) (br (ixI b i) (br (ixT b i 3 [Sh.int .i64,Sh.int .i64] 1) (br (!((gC a i 1).toInt==(gC b i 1).toInt&&((gC a i 2).toInt==(gC b i 2).toInt&&true))) (κr (true,(false),())) (br (ixI a i) (br (ixS a i (Sh.list 3) 0) (br (ixI b i) (br (ixS b i (Sh.list 3) 0) (br ((xki (gC a i 0).toList (gC b i 0).toList).isSome) (br ((xki (gC a i 0).toList (gC b i 0).toList).getD 0 != 0) (κr (true,(false),())) (κl (i64.wrap (i+1)))) δ) δ) δ) δ) δ)) δ) δ) δ) δ) (κr (false,false,()))
def xbX (a b:LA):StT (Int) (Bool×(Bool)×(Unit)):=fun (i)=>xfE a b i none inL inR
def xkR:=xz1.l 42 0 [] [] Tryz.f35 0 lk0 [0,1,5] [4] [] (q3 (qL 3) (qL 3) qI) xIR (fun (a,b,i,_) _=>(xbX a b,(i),fun p=>(.node p.1 (.leaf .ret [AV.bool p.2.1] []) (.leaf (.exit 0) [.top] [])))) (false,false,()) fun (a,b,_,_) _ (i)=>(((a,b,i,()),()),xfE a b i none)
def xjW {T:Type} (a b:LA) (δ:T) (κ:Bool->T):T:=br ((↑a.length:Int) != (↑b.length:Int)) (κ (false)) (br ((Iter (xbX a b) 0).isSome) (br (((Iter (xbX a b) 0).getD (false,false,())).fst) (κ (((Iter (xbX a b) 0).getD (false,false,())).snd.fst)) (κ (true))) δ)
def xb1 (a b:LA):=xjW a b none some
def xEu:EO:=xz1.f Tryz.func35 42 0 [] [(4,xkR.lp)] (lk1 xkR.ok) (u2 (uL 3) (uL 3)) (fun (a,b,_) _=>xjW a b) (fun _ p=>AV.bool p) false
def xmh (a b:Int):Bool:=(br (decide (a>=0)) (br (decide (a<b)) ((decide (b<=1099511627776))) ((false))) ((false)))
def xuU {T:Type} (a b:Int) (δ:T) (κ:Bool->T):T:=br (decide (a>=0)) (br (decide (a<b)) (κ (decide (b<=1099511627776))) (κ (false))) (κ (false))
def xz2:EO:=xEu.fT Tryz.func83 18 0 [] [] lk0 (fun ((a,b,_),_)=>xuU a b none) (u1 (xI5 (u2 uI uI))) (fun ((a,b,_),_)=>xmh a b) (fun _ p=>(AV.bool p))
def xh4 {T:Type} (k:Nat) (a n:Int) (b:LA) (δ:T) (κ:Bool×(Nat×LA)×(Nat×LA)->T):T:=br (rmB k b 1 16) (κ (false,(0,[]),(k+1,b++[AV.agg [AV.int .i64 a,AV.int .i64 n]]))) δ
def xmi {T:Type} (k:Nat) (a n:Int) (b:LA) (δ:T) (κ:Bool×(Nat×LA)×(Nat×LA)->T):T:=br (decide ((↑k:Int)>0)) (br (decide (0<=i64.wrap ((↑k:Int) - 1))&&decide (i64.wrap ((↑k:Int) - 1)<(↑k:Int))) (br (decide (0+(i64.wrap ((↑k:Int) - 1)).toNat<b.length)&&xH4 (Sh.int .i64) ((b.getD (0+(i64.wrap ((↑k:Int) - 1)).toNat) .top).cells.getD 1 .top)) (br (((b.getD (0+(i64.wrap ((↑k:Int) - 1)).toNat) .top).cells.getD 1 .top).toInt==n) (κ (true,(k,b),(0,[]))) (xh4 k a n b δ κ)) δ) δ) (xh4 k a n b δ κ)
def xoq (k:Nat) (a n:Int) (b:LA):=xmi k a n b none some
def xdl {T:Type} (a:List UInt8) (i:Int) (δ:T) (κl:(Int)->T) (κr:(Bool×(Bool)×(Unit))->T):T:=br (decide (i<a.length)) (br (decide (0<=i)&&decide (i<a.length)) (br (decide ((↑(a.getD i.toNat (0:UInt8)).toNat:Int)<32)) (κr (true,(false),())) (br (decide (0<=i)&&decide (i<a.length)) (br (decide ((↑(a.getD i.toNat (0:UInt8)).toNat:Int)>126)) (κr (true,(false),())) (κl (i64.wrap (i+1)))) δ)) δ) (κr (false,false,()))
def xbc (a:List UInt8):StT (Int) (Bool×(Bool)×(Unit)):=fun (i)=>xdl a i none inL inR
def xkP:=xz2.l 20 0 [] [] Tryz.f145 0 lk0 [0,3] [2] [] (q2 pStr qI) xIR (fun (a,i,_) _=>(xbc a,(i),fun p=>(.node p.1 (.leaf .ret [AV.bool p.2.1] []) (.leaf (.exit 0) [.top] [])))) (false,false,()) fun (a,_,_) _ (i)=>(((a,i,()),()),xdl a i none)
def xjU {T:Type} (a:List UInt8) (δ:T) (κ:Bool->T):T:=br ((Iter (xbc a) 0).isSome) (br (((Iter (xbc a) 0).getD (false,false,())).fst) (κ (((Iter (xbc a) 0).getD (false,false,())).snd.fst)) (κ (true))) δ
def xiG (a:List UInt8):=xjU a none some
def xEC:EO:=xz2.f Tryz.func145 20 0 [] [(2,xkP.lp)] (lk1 xkP.ok) (u1 (sEq pStr)) (fun (a,_) _=>xjU a) (fun _ p=>AV.bool p) false
def xmP {T:Type} (c a:Int) (b:List UInt8) (δ:T) (κ:Bool->T):T:=br (c==0) (br (a==0) (κ (b==[])) (κ (false))) (br (c==1) (br (b==[]) (br (decide (a>=(-1125899906842624))) (κ (decide (a<=1125899906842624))) (κ (false))) (κ (false))) (br (c==2) (br (a==0) (br (decide ((↑b.length:Int)<=200)) (br ((xiG b).isSome) (κ ((xiG b).getD false)) δ) (κ (false))) (κ (false))) (br (c==3) (br (b==[]) (br (a==0) (κ (true)) (κ (a==1))) (κ (false))) (κ (false)))))
def xoJ (a b:Int) (c:List UInt8):=xmP a b c none some
def xz4:EO:=xEC.f Tryz.func127 61 0 [] [] lk0 (u1 (xI5 (u3 uI uI (sEq pStr)))) (fun ((a,b,c,_),_) _=>xmP a b c) (fun _ p=>AV.bool p) false
def xeL (a:LA) (i:Int):=xoJ (gC a i 0).toInt (gC a i 1).toInt (gC a i 2).toStr
def xei {T:Type} (a b:LA) (i:Int) (δ:T) (κl:(Int)->T) (κr:(Bool×(Bool)×(Unit))->T):T:=br (decide (i<a.length)) (br (ixI a i) (br (ixT a i 3 [Sh.int .i64,Sh.int .i64,Sh.str] 0) (br ((xeL a i).isSome) (br (!(xeL a i).getD false) (κr (true,(false),())) (br (ixI a i) (br (ixS a i (Sh.int .i64) 0) (br ((gC a i 0).toInt != 0) (br (ixI a i) (br (ixS a i (Sh.int .i64) 0) (br (ixI b i) (br (ixS b i (Sh.int .i64) 0) (br ((gC a i 0).toInt != (gC b i 0).toInt) (κr (true,(false),())) (κl (i64.wrap (i+1)))) δ) δ) δ) δ) (κl (i64.wrap (i+1)))) δ) δ)) δ) δ) δ) (κr (false,false,()))
def xbq (b a:LA):StT (Int) (Bool×(Bool)×(Unit)):=fun (i)=>xei b a i none inL inR
def xnS:=xz4.l 43 0 [] [] Tryz.f90 0 lk0 [0,1,5] [4] [] (q3 (qL 3) (qL 1) qI) xIR (fun (b,a,i,_) _=>(xbq b a,(i),fun p=>(.node p.1 (.leaf .ret [AV.bool p.2.1] []) (.leaf (.exit 0) [.top] [])))) (false,false,()) fun (b,a,_,_) _ (i)=>(((b,a,i,()),()),xei b a i none)
def xnT {T:Type} (b a:LA) (δ:T) (κ:Bool->T):T:=br ((↑b.length:Int) != (↑a.length:Int)) (κ (false)) (br ((Iter (xbq b a) 0).isSome) (br (((Iter (xbq b a) 0).getD (false,false,())).fst) (κ (((Iter (xbq b a) 0).getD (false,false,())).snd.fst)) (κ (true))) δ)
def xnj (b a:LA):=xnT b a none some
def xED:EO:=xz4.f Tryz.func90 43 0 [] [(4,xnS.lp)] (lk1 xnS.ok) (u2 (uL 3) (uL 1)) (fun (b,a,_) _=>xnT b a) (fun _ p=>AV.bool p) false
def xpy (k:Int):Bool:=(br (k==1) ((true)) (br (k==2) ((true)) ((k==3))))
def xvZ {T:Type} (k:Int) (δ:T) (κ:Bool->T):T:=br (k==1) (κ (true)) (br (k==2) (κ (true)) (κ (k==3)))
def xz5:EO:=xED.fT Tryz.func128 13 0 [] [] lk0 (fun (k,_)=>xvZ k none) (u1 uI) (fun (k,_)=>xpy k) (fun _ p=>(AV.bool p))
def xf1 {T:Type} (l:LA) (i:Int) (δ:T) (κl:(Int)->T) (κr:(Bool×(Bool)×(Unit))->T):T:=br (decide (i<l.length)) (br (ixI l i) (br (ixS l i (Sh.int .i64) 0) (br (!xpy (gC l i 0).toInt) (κr (true,(false),())) (κl (i64.wrap (i+1)))) δ) δ) (κr (false,false,()))
def xbN (l:LA):StT (Int) (Bool×(Bool)×(Unit)):=fun (i)=>xf1 l i none inL inR
def xm1:=xz5.l 16 0 [] [] Tryz.f91 0 lk0 [0,3] [2] [] (q2 (qL 1) qI) xIR (fun (l,i,_) _=>(xbN l,(i),fun p=>(.node p.1 (.leaf .ret [AV.bool p.2.1] []) (.leaf (.exit 0) [.top] [])))) (false,false,()) fun (l,_,_) _ (i)=>(((l,i,()),()),xf1 l i none)
def xmQ {T:Type} (l:LA) (δ:T) (κ:Bool->T):T:=br ((Iter (xbN l) 0).isSome) (br (((Iter (xbN l) 0).getD (false,false,())).fst) (κ (((Iter (xbN l) 0).getD (false,false,())).snd.fst)) (κ (true))) δ
def xmj (l:LA):=xmQ l none some
def xz6:EO:=xz5.f Tryz.func91 16 0 [] [(2,xm1.lp)] (lk1 xm1.ok) (u1 (uL 1)) (fun (l,_) _=>xmQ l) (fun _ p=>AV.bool p) false
def xeM {T:Type} (i:Int) (b a:LA) (δ:T) (κl:(Int×LA×LA)->T) (κr:(Bool×(Bool×LA×LA)×(LA×LA))->T):T:=br (decide (i<a.length)) (br (ixI a i) (br (ixT a i 3 [Sh.int .i64,Sh.int .i64] 1) (br (!xmh (gC a i 1).toInt (gC a i 2).toInt) (κr (true,(false,b,a),([],[]))) (br (ixI a i) (br (ixS a i (Sh.list 3) 0) (br ((xnj (gC a i 0).toList b).isSome) (br (!(xnj (gC a i 0).toList b).getD false) (κr (true,(false,b,a),([],[]))) (κl (i64.wrap (i+1),b,a))) δ) δ) δ)) δ) δ) (κr (false,(false,[],[]),(b,a)))
def xbO:StT (Int×LA×LA) (Bool×(Bool×LA×LA)×(LA×LA)):=fun (i,a,b)=>xeM i a b none inL inR
def xm2:=xz6.l 46 0 [] [] Tryz.f57 0 lk0 [1,3] [1,2] [] (q2 (xI1 0 0 0 0) qI) (q1 (qB 0 2 25 (q1 (xI2 (q2 (qL 1) (qL 3)))))) (fun (_,i,_) (((a,b,_),_),_)=>(xbO,(i,a,b),fun p=>(.node p.1 (.leaf .ret [AV.own 0 0 0 0,AV.bool p.2.1.1] [bF 0 2 25 [AV.agg [AV.list 1 p.2.1.2.1,AV.list 3 p.2.1.2.2]]]) (.leaf (.exit 0) [AV.own 0 0 0 0,.top] [bF 0 2 25 [AV.agg [AV.list 1 p.2.2.1,AV.list 3 p.2.2.2]]])))) (false,(false,[],[]),([],[])) fun _ _ (i,a,b)=>((((),i,()),(((a,b,()),()),())),xeM i a b none)
def xd0 (a b:LA):=(Iter xbO (0,a,b)).getD (false,(false,[],[]),[],[])
def xht (a b:LA):=(↑(((xd0 a b).snd).snd.fst).length:Int)
def xmS {T:Type} (a b:LA) (δ:T) (κ:Bool->T):T:=br ((Iter xbO (0,a,b)).isSome) (br ((xd0 a b).fst) (κ (((xd0 a b).snd).fst.fst)) (br (decide (xht a b>0)) (br (decide (xht a b<=48)) (br ((xmj (((xd0 a b).snd).snd.fst)).isSome) (κ ((xmj (((xd0 a b).snd).snd.fst)).getD false)) δ) (κ (false))) (κ (false)))) δ
def xmk (a b:LA):=xmS a b none some
def xz7:EO:=xz6.f Tryz.func57 46 0 [] [(2,xm2.lp)] (lk1 xm2.ok) (u1 (xI5 (u2 (uL 1) (uL 3)))) (fun ((a,b,_),_) _=>xmS a b) (fun _ p=>AV.bool p) false
def xfD {T:Type} (a b:LA) (i:Int) (δ:T) (κl:(Int)->T) (κr:(Bool×(Bool)×(Unit))->T):T:=br (decide (i<a.length)) (br (ixI a i) (br (ixS a i (Sh.int .i64) 0) (br (ixI b i) (br (ixS b i (Sh.int .i64) 0) (br ((gC a i 0).toInt != (gC b i 0).toInt) (κr (true,(false),())) (κl (i64.wrap (i+1)))) δ) δ) δ) δ) (κr (false,false,()))
def xbW (a b:LA):StT (Int) (Bool×(Bool)×(Unit)):=fun (i)=>xfD a b i none inL inR
def xkQ:=xz7.l 26 0 [] [] Tryz.f39 0 lk0 [0,1,5] [4] [] (q3 (qL 1) (qL 1) qI) xIR (fun (a,b,i,_) _=>(xbW a b,(i),fun p=>(.node p.1 (.leaf .ret [AV.bool p.2.1] []) (.leaf (.exit 0) [.top] [])))) (false,false,()) fun (a,b,_,_) _ (i)=>(((a,b,i,()),()),xfD a b i none)
def xjV {T:Type} (a b:LA) (δ:T) (κ:Bool->T):T:=br ((↑a.length:Int) != (↑b.length:Int)) (κ (false)) (br ((Iter (xbW a b) 0).isSome) (br (((Iter (xbW a b) 0).getD (false,false,())).fst) (κ (((Iter (xbW a b) 0).getD (false,false,())).snd.fst)) (κ (true))) δ)
def xff (a b:LA):=xjV a b none some
def xEE:EO:=xz7.f Tryz.func39 26 0 [] [(4,xkQ.lp)] (lk1 xkQ.ok) (u2 (uL 1) (uL 1)) (fun (a,b,_) _=>xjV a b) (fun _ p=>AV.bool p) false
def xmR {T:Type} (a b c d:LA) (δ:T) (κ:Bool->T):T:=br ((xff a c).isSome) (br ((xff a c).getD false) (br ((xb1 b d).isSome) (κ ((xb1 b d).getD false)) δ) (κ (false))) δ
def xia (a b c d:LA):=xmR a b c d none some
def xEF:EO:=xEE.f Tryz.func12 17 0 [] [] lk0 (u2 (xI5 (u2 (uL 1) (uL 3))) (xI5 (u2 (uL 1) (uL 3)))) (fun ((a,b,_),(c,d,_),_) _=>xmR a b c d) (fun _ p=>AV.bool p) false
def xoF {T:Type} (a b:LA) (δ:T) (κ:Bool->T):T:=br (decide ((↑b.length:Int)<=16)) (br (decide ((↑a.length:Int)<=48)) (br ((xmk a b).isSome) (κ ((xmk a b).getD false)) δ) (κ (false))) (κ (false))
def xkM (a b:LA):=xoF a b none some
def xEi:EO:=xEF.f Tryz.func21 17 0 [] [] lk0 (u1 (xI5 (u2 (uL 1) (uL 3)))) (fun ((a,b,_),_) _=>xoF a b) (fun _ p=>AV.bool p) false
def xnK {T:Type} (a c b d:LA) (δ:T) (κ:Bool->T):T:=br ((xkM a c).isSome) (br ((xkM a c).getD false) (br ((xkM b d).isSome) (br ((xkM b d).getD false) (br ((xff a b).isSome) (κ ((xff a b).getD false)) δ) (κ (false))) δ) (κ (false))) δ
def xng (a b c d:LA):=xnK a b c d none some
def xzY:EO:=xEi.f Tryz.func10 18 0 [] [] lk0 (u2 (xI5 (u2 (uL 1) (uL 3))) (xI5 (u2 (uL 1) (uL 3)))) (fun ((a,b,_),(c,d,_),_) _=>xnK a b c d) (fun _ p=>AV.bool p) false
end Go.Sim.M
