/- Part 14 of the proof: SrtE, E1, KP1, KP2, Lset, KP3, KP4, KP5, KV, KQ, KR1, KJ, KR2, KR3, Awz, KA, KL. -/
import Derived.Test.YtefloaolddjnhaaGreatDoorQA13
import Derived.StillTailTactics
set_option linter.unusedVariables false
set_option linter.unusedSimpArgs false
set_option linter.unnecessarySimpa false
set_option linter.unusedSectionVars false
noncomputable section
set_option maxRecDepth 100000
namespace Go.Sim.M
def cmpI (x y:Int):Int:=if x<y then -1 else if y<x then 1 else 0
def orI (x y:Int):Int:=if x=0 then y else x
end Go.Sim.M
namespace Go.Proofs
open Go.RowKit Go.Sim Go.Sim.M Go.Sort Go.Lib
theorem Tryz.cmp_walk (x y:Int) (w:World):Calls Tryz.prog 54 #[.int .i64 x,.int .i64 y] w fun e w'=>e=.returned (.int .i64 (cmpI x y))∧w'=w:=by
 unfold cmpI
 go_enter Tryz.func54,Tryz.ntmps54
 go_wp2
 all_goals (go_ret;exact ⟨rfl,rfl⟩)
theorem Tryz.or_walk (x y:Int) (b off c:Nat) (w:World) (h0:w.cell? ⟨b,off,none⟩=some (.int .i64 x)) (h1:w.cell? ⟨b,off+1,none⟩=some (.int .i64 y)):Calls Tryz.prog 71 #[.slice (some ⟨b,off,none⟩) 2 c] w fun e w'=>e=.returned (.int .i64 (orI x y))∧w'=w:=by
 unfold orI
 by_cases hx:x=0
 · subst hx
   rw [if_pos rfl]
   by_cases hy:y=0
   · subst hy
     go_enter Tryz.func71,Tryz.ntmps71
     go_wp2
     refine wp_loop_rounds 3 ?_
     rw [rounds_succ]
     go_wp2
     rw [rounds_succ]
     go_wp2
     rw [rounds_succ]
     go_wp2
     go_ret
     exact ⟨rfl,rfl⟩
   · have hy':(y != 0)=true:=by simpa using hy
     go_enter Tryz.func71,Tryz.ntmps71
     go_wp2
     refine wp_loop_rounds 3 ?_
     rw [rounds_succ]
     go_wp2
     rw [rounds_succ]
     go_wp2
     go_ret
     exact ⟨rfl,rfl⟩
 · have hx':(x != 0)=true:=by simpa using hx
   rw [if_neg hx]
   go_enter Tryz.func71,Tryz.ntmps71
   go_wp2
   refine wp_loop_rounds 3 ?_
   rw [rounds_succ]
   go_wp2
   go_ret
   exact ⟨rfl,rfl⟩
theorem fill2I (u1 u2:Int):Instr.fill (fun i=>some (i*1,1)) ((Array.range (2*1)).map (fun x=>(Value.int .i64 0).cells[x % (Value.int .i64 0).cells.size]!)) [(0,.int .i64 u1),(1,.int .i64 u2)]=some #[.int .i64 u1,.int .i64 u2]:=by
 simp [Instr.fill,Array.range,Value.cells]
 apply Array.ext
 · simp
 · intro i h1 h2
   rcases i with _|_|i
   · simp
   · simp
   · simp at h2;omega
set_option maxHeartbeats 2000000 in
theorem Tryz.levels2_walk (a b c d:Int) (w:World):Calls Tryz.prog 70 #[.agg #[.int .i64 a,.int .i64 b],.agg #[.int .i64 c,.int .i64 d]] w fun e w'=>e=.returned (.int .i64 (orI (cmpI a c) (cmpI b d)))∧∃ q os',w'=Sort.grow (w.drewN q) os':=by
 go_enter Tryz.func70,Tryz.ntmps70
 go_wp2_with (go_at_call 54;skip)
 have g0:(w.alloc (.cells #[.int .i64 a,.int .i64 b] 31)).heap[w.heap.size]?=some (.cells #[.int .i64 a,.int .i64 b] 31 (0,0)):=heap_alloc_new w _
 have g1:((w.alloc (.cells #[.int .i64 a,.int .i64 b] 31)).alloc (.cells #[.int .i64 c,.int .i64 d] 31)).heap[w.heap.size+1]?=some (.cells #[.int .i64 c,.int .i64 d] 31 (0,0)):=by
  have:=heap_alloc_new (w.alloc (.cells #[.int .i64 a,.int .i64 b] 31)) (.cells #[.int .i64 c,.int .i64 d] 31)
  have e:(w.alloc (.cells #[.int .i64 a,.int .i64 b] 31)).heap.size=w.heap.size+1:=by simp
  rwa [e] at this
 have f0:((w.alloc (.cells #[.int .i64 a,.int .i64 b] 31)).alloc (.cells #[.int .i64 c,.int .i64 d] 31)).cell? ⟨w.heap.size,0,none⟩=some (.int .i64 a):=by
  rw [World.cell?_alloc_past _ _ _ (by simp)];simp only [World.cell?,g0];rfl
 have f1:((w.alloc (.cells #[.int .i64 a,.int .i64 b] 31)).alloc (.cells #[.int .i64 c,.int .i64 d] 31)).cell? ⟨w.heap.size,1,none⟩=some (.int .i64 b):=by
  rw [World.cell?_alloc_past _ _ _ (by simp)];simp only [World.cell?,g0];rfl
 have f2:((w.alloc (.cells #[.int .i64 a,.int .i64 b] 31)).alloc (.cells #[.int .i64 c,.int .i64 d] 31)).cell? ⟨w.heap.size+1,0,none⟩=some (.int .i64 c):=by
  simp only [World.cell?,g1];rfl
 have f3:((w.alloc (.cells #[.int .i64 a,.int .i64 b] 31)).alloc (.cells #[.int .i64 c,.int .i64 d] 31)).cell? ⟨w.heap.size+1,1,none⟩=some (.int .i64 d):=by
  simp only [World.cell?,g1];rfl
 have f4:∃ q os',((w.alloc (.cells #[.int .i64 a,.int .i64 b] 31)).alloc (.cells #[.int .i64 c,.int .i64 d] 31))=Sort.grow (w.drewN q) os':=⟨0,_,by rw [alloc_eq_grow,alloc_eq_grow,grow_grow];rfl⟩
 generalize ((w.alloc (.cells #[.int .i64 a,.int .i64 b] 31)).alloc (.cells #[.int .i64 c,.int .i64 d] 31))=W2 at f0 f1 f2 f3 f4 ⊢
 refine wp_region_still_tail 10 (by kernel_rfl) (by kernel_rfl) ?_
 simp only [List.take_succ_cons,List.take_zero,List.drop_succ_cons,List.drop_zero]
 change wpStill _ _ (World.drew W2) _ _ _
 have f0':W2.drew.cell? ⟨w.heap.size,0,none⟩=some (.int .i64 a):=f0
 have f1':W2.drew.cell? ⟨w.heap.size,1,none⟩=some (.int .i64 b):=f1
 have f2':W2.drew.cell? ⟨w.heap.size+1,0,none⟩=some (.int .i64 c):=f2
 have f3':W2.drew.cell? ⟨w.heap.size+1,1,none⟩=some (.int .i64 d):=f3
 have f4':∃ q os',W2.drew=Sort.grow (w.drewN q) os':=by obtain ⟨q,os',e⟩:=f4;exact ⟨q+1,os',by rw [e];rfl⟩
 iterate 4 still_step
 still_call (Tryz.cmp_walk _ _ _)
 iterate 4 still_step
 still_call (Tryz.cmp_walk _ _ _)
 refine wpStill_nil ?_
 change wpList _ _ _ _ _ (World.drew W2)
 generalize World.drew W2=W at f0' f1' f2' f3' f4' ⊢
 generalize hu1:cmpI a c=u1
 generalize hu2:cmpI b d=u2
 obtain ⟨ie,q1,q2,q3⟩:∃ ie,Tryz.prog.info? 3=some ie∧ie.zero=some (.int .i64 0)∧ie.size=1:=⟨(Tryz.prog.info? 3).get (by kernel_rfl),(Option.some_get _).symm,by kernel_rfl,by kernel_rfl⟩
 refine wpList_buildSlice rfl 28 3 2 _ rfl #[.int .i64 u1,.int .i64 u2] ie (.int .i64 0) (by kernel_rfl) q1 q2 (by rw [q3];decide) (by rw [q3];decide) (by rw [q3];refine Eq.trans (congrArg _ ?_) (fill2I u1 u2);simp [Act.eval]) ?_
 simp only [Act.put]
 go_wp2_with fail
 have g2:(W.alloc (.cells #[.int .i64 u1,.int .i64 u2] 3)).heap[W.heap.size]?=some (.cells #[.int .i64 u1,.int .i64 u2] 3 (0,0)):=heap_alloc_new W _
 refine (Tryz.or_walk u1 u2 W.heap.size 0 2 (W.alloc (.cells #[.int .i64 u1,.int .i64 u2] 3)) (by simp only [World.cell?,g2];rfl) (by simp only [World.cell?,g2];rfl)).mono ?_
 rintro e w' ⟨rfl,rfl⟩
 go_wp2
 go_ret
 obtain ⟨q,os',hq⟩:=f4'
 exact ⟨by rw [hu1,hu2];rfl,q,_,by rw [hq,alloc_eq_grow,grow_grow]⟩
end Go.Proofs
namespace Go.Sim.M
abbrev TyE:Type:=Fin 1099511627777×Int×Int
def intsE (x:TyE):List Int:=[(x.1.val:Int),x.2.1,x.2.2]
def cmpE (x y:TyE):Int:=(x.1.val:Int) - (y.1.val:Int)
end Go.Sim.M
namespace Go.Proofs
open Go.RowKit Go.Sim Go.Sim.M Go.Sort
set_option maxHeartbeats 1000000 in
theorem Tryz.walkE (a b c a' b' c' r:Int) (hr:IntKind.i64.wrap (a - a')=r) (W:World):Calls Tryz.prog 130 #[.agg #[.int .i64 a,.int .i64 b,.int .i64 c],.agg #[.int .i64 a',.int .i64 b',.int .i64 c']] W fun e w'=>e=.returned (.int .i64 r)∧∃ q os',w'=Sort.grow (W.drewN q) os':=by
 go_enter Tryz.func130,Tryz.ntmps130
 go_wp2
 go_ret
 subst hr
 exact ⟨rfl,0,_,by rw [alloc_eq_grow,alloc_eq_grow,grow_grow];rfl⟩
end Go.Proofs
namespace Go.Sim.M
open Go.RowKit Go.Proofs Go.Sort
def isE:AV→Bool
 | .agg [.int .i64 a,.int .i64 _,.int .i64 _]=>decide (0≤a)&&decide (a≤1099511627776)
 | _=>false
def decE:AV→TyE
 | .agg [.int _ a,.int _ b,.int _ c]=>(Fin.ofNat 1099511627777 a.toNat,b,c)
 | _=>default
noncomputable def srtE (xs:List AV):List AV:=(pdqL cmpE (xs.map decE)).map (encI intsE)
theorem xCL {x:AV} (h:isE x=true):encI intsE (decE x)=x:=by
 unfold isE at h
 split at h
 · rename_i a b c
   simp only [Bool.and_eq_true,decide_eq_true_eq] at h
   have:a.toNat % 1099511627777=a.toNat:=Nat.mod_eq_of_lt (by omega)
   simp only [decE,encI,intsE,List.map_cons,List.map_nil,Fin.ofNat,this,Int.toNat_of_nonneg h.1]
 · simp at h
theorem xBX {xs:List AV} (h:xs.all isE=true):(xs.map decE).map (encI intsE)=xs:=by
 rw [List.map_map]
 conv=>rhs;rw [←List.map_id xs]
 refine List.map_congr_left fun x hx=>?_
 exact xCL (List.all_eq_true.1 h x hx)
theorem ltE (x y:TyE):ltOf cmpE x y=decide (x.1.val<y.1.val):=by
 unfold ltOf cmpE
 by_cases h:x.1.val<y.1.val
 · rw [decide_eq_true h,decide_eq_true (by omega)]
 · rw [decide_eq_false h,decide_eq_false (by omega)]
theorem swoE:SWO (ltOf cmpE) where
 irrefl x:=by rw [ltE];simp
 trans x y z h1 h2:=by rw [ltE] at *;simp at *;omega
 ntrans x y z h1 h2:=by rw [ltE] at *;simp at *;omega
noncomputable def xuU:List AV→List Box→Option (Bool×AV×List Box)
 | [.osl (.b 0) ver 0 n,.func g []],[⟨ver',3,ty,xs,false,true⟩]=>match Nat.beq g 130&&Nat.beq ty 117 with
  | true=>some (Nat.beq ver ver'&&(Nat.beq n xs.length&&(decide (n<4611686018427387904)&&xs.all isE)),.tuple [],[⟨ver',3,117,srtE xs,false,true⟩])
  | false=>none
 | _,_=>none
theorem xEH:OmOk Tryz.prog ITryz 129 xuU:=fun ass H r H' h=>by
 unfold xuU at h
 split at h
 · rename_i ver n g ver' ty xs
   split at h
   case h_2=>simp at h
   rename_i hg
   simp only [Bool.and_eq_true] at hg
   obtain rfl:=Nat.eq_of_beq_eq_true hg.1
   obtain rfl:=Nat.eq_of_beq_eq_true hg.2
   simp only [Option.some.injEq,Prod.mk.injEq,Bool.and_eq_true,decide_eq_true_eq] at h
   obtain ⟨⟨h1,h2,h3,h4⟩,rfl,rfl⟩:=h
   obtain rfl:=Nat.eq_of_beq_eq_true h1
   obtain rfl:=Nat.eq_of_beq_eq_true h2
   have hti:∃ ti,tinfo Tryz.prog 117=some ti∧ti.sz=3∧ti.agg=true:=by
    have h:(match tinfo Tryz.prog 117 with|some ti=>(ti.sz==3)&&ti.agg|none=>false)=true:=by kernel_rfl
    split at h
    · rename_i ti hti
      simp only [Bool.and_eq_true,beq_iff_eq] at h
      exact ⟨ti,hti,h.1,h.2⟩
    · simp at h
   obtain ⟨ti,hti,hz,ha⟩:=hti
   have hgd:=xlH (P:=Tryz.prog) (Inv:=ITryz) Tryz.srl129 3 (by decide) (fun w=>by rw [←ha];exact xiM hti w) (fun w=>by rw [←hz];exact xdn hti w)
    intsE (fun _=>rfl) cmpE swoE 130 (xc4 Tryz.func129 rfl (by kernel_rfl)) (xiu (xc4 Tryz.func130 rfl (by kernel_rfl)))
    (fun x y W=>Tryz.walkE _ _ _ _ _ _ (cmpE x y) (by
     have:=x.1.isLt
     have:=y.1.isLt
     unfold cmpE
     exact xgM (by omega) (by omega)) W)
    ver 117 rfl (xs.map decE) (by simpa using h3)
   rw [List.length_map,xBX h4] at hgd
   exact hgd
 · simp at h
end Go.Sim.M
namespace Go.Sim.M
abbrev TyS:Type:=Fin 1099511627777×Int
def intsS (x:TyS):List Int:=[(x.1.val:Int),x.2]
def cmpS (x y:TyS):Int:=(x.1.val:Int) - (y.1.val:Int)
end Go.Sim.M
namespace Go.Proofs
open Go.RowKit Go.Sim Go.Sim.M Go.Sort
set_option maxHeartbeats 1000000 in
theorem Tryz.walkS (a b a' b' r:Int) (hr:IntKind.i64.wrap (a - a')=r) (W:World):Calls Tryz.prog 96 #[.agg #[.int .i64 a,.int .i64 b],.agg #[.int .i64 a',.int .i64 b']] W fun e w'=>e=.returned (.int .i64 r)∧∃ q os',w'=Sort.grow (W.drewN q) os':=by
 go_enter Tryz.func96,Tryz.ntmps96
 go_wp2
 go_ret
 subst hr
 exact ⟨rfl,0,_,by rw [alloc_eq_grow,alloc_eq_grow,grow_grow];rfl⟩
end Go.Proofs
namespace Go.Sim.M
open Go.RowKit Go.Proofs Go.Sort
def isS:AV→Bool
 | .agg [.int .i64 a,.int .i64 _]=>decide (0≤a)&&decide (a≤1099511627776)
 | _=>false
def decS:AV→TyS
 | .agg [.int _ a,.int _ b]=>(Fin.ofNat 1099511627777 a.toNat,b)
 | _=>default
noncomputable def srtS (xs:List AV):List AV:=(pdqL cmpS (xs.map decS)).map (encI intsS)
theorem xCK {x:AV} (h:isS x=true):encI intsS (decS x)=x:=by
 unfold isS at h
 split at h
 · rename_i a b
   simp only [Bool.and_eq_true,decide_eq_true_eq] at h
   have:a.toNat % 1099511627777=a.toNat:=Nat.mod_eq_of_lt (by omega)
   simp only [decS,encI,intsS,List.map_cons,List.map_nil,Fin.ofNat,this,Int.toNat_of_nonneg h.1]
 · simp at h
theorem xBL {xs:List AV} (h:xs.all isS=true):(xs.map decS).map (encI intsS)=xs:=by
 rw [List.map_map]
 conv=>rhs;rw [←List.map_id xs]
 refine List.map_congr_left fun x hx=>?_
 exact xCK (List.all_eq_true.1 h x hx)
theorem ltS (x y:TyS):ltOf cmpS x y=decide (x.1.val<y.1.val):=by
 unfold ltOf cmpS
 by_cases h:x.1.val<y.1.val
 · rw [decide_eq_true h,decide_eq_true (by omega)]
 · rw [decide_eq_false h,decide_eq_false (by omega)]
theorem swoS:SWO (ltOf cmpS) where
 irrefl x:=by rw [ltS];simp
 trans x y z h1 h2:=by rw [ltS] at *;simp at *;omega
 ntrans x y z h1 h2:=by rw [ltS] at *;simp at *;omega
noncomputable def xun:List AV→List Box→Option (Bool×AV×List Box)
 | [.osl (.b 0) ver 0 n,.func g []],[⟨ver',2,ty,xs,false,true⟩]=>match Nat.beq g 96&&Nat.beq ty 75 with
  | true=>some (Nat.beq ver ver'&&(Nat.beq n xs.length&&(decide (n<4611686018427387904)&&xs.all isS)),.tuple [],[⟨ver',2,75,srtS xs,false,true⟩])
  | false=>none
 | _,_=>none
theorem xE3:OmOk Tryz.prog ITryz 95 xun:=fun ass H r H' h=>by
 unfold xun at h
 split at h
 · rename_i ver n g ver' ty xs
   split at h
   case h_2=>simp at h
   rename_i hg
   simp only [Bool.and_eq_true] at hg
   obtain rfl:=Nat.eq_of_beq_eq_true hg.1
   obtain rfl:=Nat.eq_of_beq_eq_true hg.2
   simp only [Option.some.injEq,Prod.mk.injEq,Bool.and_eq_true,decide_eq_true_eq] at h
   obtain ⟨⟨h1,h2,h3,h4⟩,rfl,rfl⟩:=h
   obtain rfl:=Nat.eq_of_beq_eq_true h1
   obtain rfl:=Nat.eq_of_beq_eq_true h2
   have hti:∃ ti,tinfo Tryz.prog 75=some ti∧ti.sz=2∧ti.agg=true:=by
    have h:(match tinfo Tryz.prog 75 with|some ti=>(ti.sz==2)&&ti.agg|none=>false)=true:=by kernel_rfl
    split at h
    · rename_i ti hti
      simp only [Bool.and_eq_true,beq_iff_eq] at h
      exact ⟨ti,hti,h.1,h.2⟩
    · simp at h
   obtain ⟨ti,hti,hz,ha⟩:=hti
   have hgd:=xlH (P:=Tryz.prog) (Inv:=ITryz) Tryz.srl95 2 (by decide) (fun w=>by rw [←ha];exact xiM hti w) (fun w=>by rw [←hz];exact xdn hti w)
    intsS (fun _=>rfl) cmpS swoS 96 (xc4 Tryz.func95 rfl (by kernel_rfl)) (xiu (xc4 Tryz.func96 rfl (by kernel_rfl)))
    (fun x y W=>Tryz.walkS _ _ _ _ (cmpS x y) (by
     have:=x.1.isLt
     have:=y.1.isLt
     unfold cmpS
     exact xgM (by omega) (by omega)) W)
    ver 75 rfl (xs.map decS) (by simpa using h3)
   rw [List.length_map,xBL h4] at hgd
   exact hgd
 · simp at h
end Go.Sim.M
namespace Go.Sim.M
abbrev TyP:Type:=Int×Int
def intsP (x:TyP):List Int:=[x.1,x.2]
def cmpP (x y:TyP):Int:=orI (cmpI x.1 y.1) (cmpI x.2 y.2)
end Go.Sim.M
namespace Go.Sim.M
open Go.RowKit Go.Proofs Go.Sort
def isP:AV→Bool
 | .agg [.int .i64 _,.int .i64 _]=>true
 | _=>false
def decP:AV→TyP
 | .agg [.int _ a,.int _ b]=>(a,b)
 | _=>default
noncomputable def srtP (xs:List AV):List AV:=(pdqL cmpP (xs.map decP)).map (encI intsP)
theorem xDf {x:AV} (h:isP x=true):encI intsP (decP x)=x:=by
 unfold isP at h
 split at h
 · rfl
 · simp at h
theorem xBu {xs:List AV} (h:xs.all isP=true):(xs.map decP).map (encI intsP)=xs:=by
 rw [List.map_map]
 conv=>rhs;rw [←List.map_id xs]
 refine List.map_congr_left fun x hx=>?_
 exact xDf (List.all_eq_true.1 h x hx)
theorem ltP (x y:TyP):ltOf cmpP x y=decide (x.1<y.1∨x.1=y.1∧x.2<y.2):=by
 unfold ltOf cmpP orI cmpI
 by_cases h:x.1<y.1∨x.1=y.1∧x.2<y.2
 · rw [decide_eq_true h]
   simp only [decide_eq_true_eq]
   rcases h with h|⟨h,h'⟩
   · simp [h]
   · simp [h,h']
 · rw [decide_eq_false h]
   simp only [decide_eq_false_iff_not]
   have h1:¬ x.1<y.1:=fun e=>h (.inl e)
   by_cases h2:y.1<x.1
   · simp [h1,h2]
   · have h3:x.1=y.1:=by omega
     have h4:¬ x.2<y.2:=fun e=>h (.inr ⟨h3,e⟩)
     by_cases h5:y.2<x.2
     · simp [h1,h2,h4,h5]
     · simp [h1,h2,h4,h5]
theorem swoP:SWO (ltOf cmpP) where
 irrefl x:=by rw [ltP];simp
 trans x y z h1 h2:=by rw [ltP] at *;simp only [decide_eq_true_eq] at *;omega
 ntrans x y z h1 h2:=by rw [ltP] at *;simp only [decide_eq_true_eq,decide_eq_false_iff_not] at *;omega
noncomputable def xu0:List AV→List Box→Option (Bool×AV×List Box)
 | [.osl (.b 0) ver 0 n,.func g []],[⟨ver',2,ty,xs,false,true⟩]=>match Nat.beq g 70&&Nat.beq ty 31 with
  | true=>some (Nat.beq ver ver'&&(Nat.beq n xs.length&&(decide (n<4611686018427387904)&&xs.all isP)),.tuple [],[⟨ver',2,31,srtP xs,false,true⟩])
  | false=>none
 | _,_=>none
theorem xEM:OmOk Tryz.prog ITryz 69 xu0:=fun ass H r H' h=>by
 unfold xu0 at h
 split at h
 · rename_i ver n g ver' ty xs
   split at h
   case h_2=>simp at h
   rename_i hg
   simp only [Bool.and_eq_true] at hg
   obtain rfl:=Nat.eq_of_beq_eq_true hg.1
   obtain rfl:=Nat.eq_of_beq_eq_true hg.2
   simp only [Option.some.injEq,Prod.mk.injEq,Bool.and_eq_true,decide_eq_true_eq] at h
   obtain ⟨⟨h1,h2,h3,h4⟩,rfl,rfl⟩:=h
   obtain rfl:=Nat.eq_of_beq_eq_true h1
   obtain rfl:=Nat.eq_of_beq_eq_true h2
   have hti:∃ ti,tinfo Tryz.prog 31=some ti∧ti.sz=2∧ti.agg=true:=by
    have h:(match tinfo Tryz.prog 31 with|some ti=>(ti.sz==2)&&ti.agg|none=>false)=true:=by kernel_rfl
    split at h
    · rename_i ti hti
      simp only [Bool.and_eq_true,beq_iff_eq] at h
      exact ⟨ti,hti,h.1,h.2⟩
    · simp at h
   obtain ⟨ti,hti,hz,ha⟩:=hti
   have hgd:=xlH (P:=Tryz.prog) (Inv:=ITryz) Tryz.srl69 2 (by decide) (fun w=>by rw [←ha];exact xiM hti w) (fun w=>by rw [←hz];exact xdn hti w)
    intsP (fun _=>rfl) cmpP swoP 70 (xc4 Tryz.func69 rfl (by kernel_rfl)) (xiu (xc4 Tryz.func70 rfl (by kernel_rfl)))
    (fun x y W=>Tryz.levels2_walk _ _ _ _ W)
    ver 31 rfl (xs.map decP) (by simpa using h3)
   rw [List.length_map,xBu h4] at hgd
   exact hgd
 · simp at h
end Go.Sim.M
namespace Go.Sim.M
open Go.RowKit Go.Proofs Go.Sort
def isI:AV→Bool
 | .int .i64 _=>true
 | _=>false
noncomputable def srtI (xs:List AV):List AV:=(pdqL cmpI (xs.map AV.toInt)).map (AV.int .i64)
theorem xCd {xs:List AV} (h:xs.all isI=true):(xs.map AV.toInt).map (AV.int .i64)=xs:=by
 rw [List.map_map]
 conv=>rhs;rw [←List.map_id xs]
 refine List.map_congr_left fun x hx=>?_
 have:=List.all_eq_true.1 h x hx
 unfold isI at this
 split at this
 · rfl
 · simp at this
theorem ltI (x y:Int):ltOf cmpI x y=decide (x<y):=by
 unfold ltOf cmpI
 by_cases h:x<y
 · simp [h]
 · by_cases h2:y<x<;>simp [h,h2]
theorem swoI:SWO (ltOf cmpI) where
 irrefl x:=by rw [ltI];simp
 trans x y z h1 h2:=by rw [ltI] at *;simp at *;omega
 ntrans x y z h1 h2:=by rw [ltI] at *;simp at *;omega
noncomputable def xuJ:List AV→List Box→Option (Bool×AV×List Box)
 | [.osl (.b 0) ver 0 n,.func g []],[⟨ver',1,ty,xs,false,true⟩]=>match Nat.beq g 54&&Nat.beq ty 3 with
  | true=>some (Nat.beq ver ver'&&(Nat.beq n xs.length&&(decide (n<4611686018427387904)&&xs.all isI)),.tuple [],[⟨ver',1,3,srtI xs,false,true⟩])
  | false=>none
 | _,_=>none
theorem xE5:OmOk Tryz.prog ITryz 53 xuJ:=fun ass H r H' h=>by
 unfold xuJ at h
 split at h
 · rename_i ver n g ver' ty xs
   split at h
   case h_2=>simp at h
   rename_i hg
   simp only [Bool.and_eq_true] at hg
   obtain rfl:=Nat.eq_of_beq_eq_true hg.1
   obtain rfl:=Nat.eq_of_beq_eq_true hg.2
   simp only [Option.some.injEq,Prod.mk.injEq,Bool.and_eq_true,decide_eq_true_eq] at h
   obtain ⟨⟨h1,h2,h3,h4⟩,rfl,rfl⟩:=h
   obtain rfl:=Nat.eq_of_beq_eq_true h1
   obtain rfl:=Nat.eq_of_beq_eq_true h2
   have hgd:=xuq (P:=Tryz.prog) (Inv:=ITryz) Tryz.srl53 cmpI swoI 54 (xc4 Tryz.func53 rfl (by kernel_rfl)) (xiu (xc4 Tryz.func54 rfl (by kernel_rfl)))
    (fun x y W=>(Tryz.cmp_walk x y W).mono fun e w' ⟨h1,h2⟩=>⟨h1,0,#[],by rw [h2];exact (grow_empty _).symm⟩)
    ver 3 rfl (xs.map AV.toInt) (by simpa using h3)
   rw [List.length_map,xCd h4] at hgd
   exact hgd
 · simp at h
end Go.Sim.M
end
noncomputable section
namespace Go.Sim.M
open Go.RowKit Go.Proofs
noncomputable def E1:Env:=(((EKG.withM 129 xuU).withM 95 xun).withM 69 xu0).withM 53 xuJ
theorem xD1:OrcOk Tryz.prog ITryz E1:=(((xFw.withM xEH).withM xE3).withM xEM).withM xE5
end Go.Sim.M
end
noncomputable section
set_option maxRecDepth 100000
namespace Go.Sim.M
open Go.IntKind (i64 u64 u8)
open Go.RowKit Go.Proofs
def xip:Env:=E1.fn 29 1 (lsOf []) (lpsOf [])
theorem xtc:OrcOk Tryz.prog (ITryz.at 1) xip:=xD1.fn
theorem xrQ:LoOk Tryz.prog (ITryz.at xip.pin) xip (Tryz.f97.body.getD .skip):=xaF (by kernel_rfl)
def xny {T:Type} (k:Nat) (b n:Int) (a:LA) (δ:T) (κ:Bool×(Nat×LA)×(Nat×LA)→T):T:=br (decide ((↑k:Int)>0)) (br (decide (0≤i64.wrap ((↑k:Int) - 1))&&decide (i64.wrap ((↑k:Int) - 1)<(↑k:Int))) (br (decide (0+(i64.wrap ((↑k:Int) - 1)).toNat<a.length)&&hasSh1 (Sh.int .i64) ((a.getD (0+(i64.wrap ((↑k:Int) - 1)).toNat) .top).cells.getD 1 .top)) (br (((a.getD (0+(i64.wrap ((↑k:Int) - 1)).toNat) .top).cells.getD 1 .top).toInt==n) (κ (true,(k,a),(0,[]))) (br (k==a.length&&(decide ((k+1)*16≤140737488355328)&&decide (k+1≤4611686018427387904))) (κ (false,(0,[]),(k+1,a++[AV.agg [AV.int .i64 b,AV.int .i64 n]]))) δ)) δ) δ) (br (k==a.length&&(decide ((k+1)*16≤140737488355328)&&decide (k+1≤4611686018427387904))) (κ (false,(0,[]),(k+1,a++[AV.agg [AV.int .i64 b,AV.int .i64 n]]))) δ)
def xdo (k:Nat) (a n:Int) (b:LA):Option (Bool×(Nat×LA)×(Nat×LA)):=xny k a n b none some
theorem xzk (k:Nat) (a n:Int) (xs:LA):Enc (fun (p:Bool×(Nat×LA)×(Nat×LA))=>((br p.1 ((AV.osl 0 0 0 p.2.1.1,([⟨0,2,75,p.2.1.2,false,true⟩]:List Box))) ((AV.osl 0 1 0 p.2.2.1,([⟨1,2,75,p.2.2.2,false,true⟩]:List Box)))):(AV×List Box))) (xdo k a n xs) (XFM Tryz.prog xip Tryz.f97 (Tryz.f97.body.getD .skip) [AV.osl (0:Id) 0 0 k,AV.int .i64 a,AV.int .i64 n] [{ ver:=0,sz:=2,ty:=(75:TypeId),xs:=xs,frz:=false,pm:=true }]):=by
 refine eV (xny k a n xs none (fun (p:Bool×(Nat×LA)×(Nat×LA))=>some ((br p.1 ((AV.osl 0 0 0 p.2.1.1,([⟨0,2,75,p.2.1.2,false,true⟩]:List Box))) ((AV.osl 0 1 0 p.2.2.1,([⟨1,2,75,p.2.2.2,false,true⟩]:List Box)))):(AV×List Box)))) (by kernel_rfl) ?_;unfold xdo xny;repeat' first|exact eN|exact eS rfl|apply eB
def xr7:LA→List Box→Option (Bool×AV×List Box):=omOf (sCons (sEq (pOsl 0 0 0)) (sCons (sEq (pInt .i64)) (sCons (sEq (pInt .i64)) sNil))) (pCons (pBox 0 2 (75:TypeId) false true pAny) pNil) fun (k,(a,(n,_))) (b,_)=>((xdo k a n b).isSome,(AV.osl 0 1 0 (br ((xdo k a n b).getD (false,(0,[]),(0,[]))).1 ((xdo k a n b).getD (false,(0,[]),(0,[]))).2.1.1 ((xdo k a n b).getD (false,(0,[]),(0,[]))).2.2.1),([⟨1,2,75,(br ((xdo k a n b).getD (false,(0,[]),(0,[]))).1 ((xdo k a n b).getD (false,(0,[]),(0,[]))).2.1.2 ((xdo k a n b).getD (false,(0,[]),(0,[]))).2.2.2),false,true⟩]:List Box)))
theorem xyV:OmOk Tryz.prog ITryz 97 (xr7):=xhZ fun e f j i g=>by
 obtain ⟨k,⟨b,⟨n,_⟩⟩⟩:=e
 obtain ⟨h,_⟩:=f
 obtain ⟨c,a⟩:=Prod.mk.inj g
 have hx:=xzk _ _ _ _ _ (xah (d:=(false,(0,[]),(0,[]))) c)
 revert hx a
 generalize ((xdo k b n h).getD (false,(0,[]),(0,[])))=p
 intro a hx
 obtain ⟨rfl,rfl⟩:=Prod.mk.inj a
 obtain ⟨t,⟨l,m⟩,o,q⟩:=p
 have hg:GoodM Tryz.prog ITryz 97 _ _ _ _:=xfw (p:=xip.pin) (xge mxTryz (inv0Ok Tryz.prog _) rfl xtc rfl Tryz.func97 rfl (by kernel_rfl) xrQ hx)
 cases t
 · exact hg
 · exact GoodM.bump1 rfl (by decide) hg
def xmw:Env:=E1.withM 97 xr7
theorem xjG:OrcOk Tryz.prog ITryz xmw:=xD1.withM xyV
def xh0:Env:=xmw.fn 106 0 (lsOf []) (lpsOf [])
theorem xuQ:OrcOk Tryz.prog (ITryz.at 0) xh0:=xjG.fn
theorem xqT:LoOk Tryz.prog (ITryz.at xh0.pin) xh0 (loopAt Tryz.f72 0):=xaF (by kernel_rfl)
def xhL {T:Type} (d:LA) (e:Int) (a:Nat) (c:Int) (b:LA) (δ:T) (κl:(Nat×Int×LA)→T) (κr:(Nat×LA)→T):T:=br (decide (c<e)) (br (decide (0≤c)&&decide (c<d.length)) (br (decide (c.toNat<d.length)&&((d.getD c.toNat .top).cells.length==3&&hasShs [Sh.int .i64,Sh.int .i64,Sh.int .i64] (d.getD c.toNat .top).cells 0)) (br (xdT ((d.getD c.toNat .top).cells.getD 0 .top).toInt ((d.getD c.toNat .top).cells.getD 1 .top).toInt) (br (a==b.length&&(decide ((a+2)*16≤140737488355328)&&decide (a+2≤4611686018427387904))) (κl (a+2,i64.wrap (c+1),b++[AV.agg [AV.int .i64 ((d.getD c.toNat .top).cells.getD 0 .top).toInt,AV.int .i64 ((d.getD c.toNat .top).cells.getD 2 .top).toInt],AV.agg [AV.int .i64 ((d.getD c.toNat .top).cells.getD 1 .top).toInt,AV.int .i64 (i64.wrap (0 - ((d.getD c.toNat .top).cells.getD 2 .top).toInt))]])) δ) (κl (a,i64.wrap (c+1),b))) δ) δ) (κr (a,b))
def xcG (c:LA) (d:Int):(Nat×Int×LA)→Option ((Nat×Int×LA)⊕(Nat×LA)):=fun (b,e,a)=>xhL c d b e a none (fun s=>some (.inl s)) (fun p=>some (.inr p))
def xf4 (c:LA) (d:Int):(Nat×Int×LA)→LA×List Box:=fun (b,e,a)=>([AV.osl 0 0 0 b,AV.list 3 c,AV.int .i64 d,AV.int .i64 e],[⟨0,2,75,a,false,true⟩])
def xe2 (a:LA) (b:Int):(Nat×LA)→LR:=fun p=>(.leaf (.exit 0) [AV.osl 0 0 0 p.1] [⟨0,2,75,p.2,false,true⟩])
abbrev xv8 (a:LA) (H:List Box):=XR Tryz.prog xh0 [3,10,11,12] [3] [(3,2,75)] (loopAt Tryz.f72 0) a H
theorem xvZ (a:LA) (b:Int) (s:Nat×Int×LA):Enc (encR (xf4 a b) (xe2 a b)) (xcG a b s) (xv8 (xf4 a b s).1 (xf4 a b s).2):=by
 obtain ⟨d,e,c⟩:=s
 refine eV (xhL a b d e c none (fun s=>some (encR (xf4 a b) (xe2 a b) (.inl s))) (fun p=>some (encR (xf4 a b) (xe2 a b) (.inr p)))) (by kernel_rfl) ?_;unfold xcG xhL;repeat' first|exact eN|exact eS rfl|apply eB
def xgV:Lp:=lpOf [3,10,11,12] [3] [(3,2,75)] (pCons (pOsl 0 0 0) (pCons (pList 3 pAny) (pCons (pInt .i64) (pCons (pInt .i64) pNil)))) (pCons (pBox 0 2 75 false true pAny) pNil) fun (b,(c,(d,(e,_)))) (a,_)=>((Iter (xcG c d) (b,e,a)).isSome,xe2 c d ((Iter (xcG c d) (b,e,a)).getD (0,[])))
theorem xs2:LoopOk Tryz.prog (ITryz.at xh0.pin) xh0.nt (loopAt Tryz.f72 0) xgV:=xbr fun g h j i=>by
 obtain ⟨b,⟨c,⟨d,⟨e,_⟩⟩⟩⟩:=g
 obtain ⟨a,_⟩:=h
 obtain ⟨f,rfl⟩:=Prod.mk.inj i
 exact xaH mxTryz (inv0Ok Tryz.prog _) rfl xuQ xqT (xf4 c d) (xe2 c d) (fun p=>by simp only [xe2,LR.eval];first|(simp;done)|(repeat' split<;>simp)) (xvZ c d) (s:=(b,e,a)) (xah f)
def xhx:Env:=xmw.fn 106 0 (lsOf []) (lpsOf [(3,xgV)])
theorem xup:OrcOk Tryz.prog (ITryz.at 0) xhx:=xjG.fn
theorem xq7:LoOk Tryz.prog (ITryz.at xhx.pin) xhx (loopAt Tryz.f72 1):=xaF (by kernel_rfl)
def xos (i:Int) (a:LA):=decide (0+i.toNat<a.length)
def xlG {T:Type} (b e:Nat) (d i:Int) (a c:LA) (δ:T) (κl:(Int×Int×LA×LA)→T) (κr:(Int×Int×LA×LA)→T):T:=br (decide (i<(↑b:Int))) (br (decide (0≤i)&&decide (i<(↑b:Int))) (br (xos i a&&hasSh1 (Sh.int .i64) ((a.getD (0+i.toNat) .top).cells.getD 0 .top)) (br (((a.getD (0+i.toNat) .top).cells.getD 0 .top).toInt==0) (br (decide (0≤i)&&decide (i<(↑b:Int))) (br (xos i a&&hasSh1 (Sh.int .i64) ((a.getD (0+i.toNat) .top).cells.getD 1 .top)) (κl (i64.wrap (d+((a.getD (0+i.toNat) .top).cells.getD 1 .top).toInt),i64.wrap (i+1),a,c)) δ) δ) (κr (d,i,a,c))) δ) δ) (κr (d,i,a,c))
def xdE (b d:Nat):(Int×Int×LA×LA)→Option ((Int×Int×LA×LA)⊕(Int×Int×LA×LA)):=fun (e,i,a,c)=>xlG b d e i a c none (fun s=>some (.inl s)) (fun p=>some (.inr p))
def xgc (b d:Nat):(Int×Int×LA×LA)→LA×List Box:=fun (e,i,a,c)=>([AV.osl 0 0 0 b,AV.osl 1 0 0 d,AV.int .i64 e,AV.int .i64 i],[⟨0,2,75,a,false,true⟩,⟨0,2,75,c,false,true⟩])
def xeZ (a b:Nat):(Int×Int×LA×LA)→LR:=fun p=>(.leaf (.exit 2) [AV.osl 0 0 0 a,AV.osl 1 0 0 b,AV.int .i64 p.1,AV.int .i64 p.2.1] [⟨0,2,75,p.2.2.1,false,true⟩,⟨0,2,75,p.2.2.2,false,true⟩])
abbrev xvQ (a:LA) (H:List Box):=XR Tryz.prog xhx [3,6,7,8] [3,6,7,8] [(3,2,75),(6,2,75)] (loopAt Tryz.f72 1) a H
theorem xvY (a b:Nat) (s:Int×Int×LA×LA):Enc (encR (xgc a b) (xeZ a b)) (xdE a b s) (xvQ (xgc a b s).1 (xgc a b s).2):=by
 obtain ⟨e,i,c,d⟩:=s
 refine eV (xlG a b e i c d none (fun s=>some (encR (xgc a b) (xeZ a b) (.inl s))) (fun p=>some (encR (xgc a b) (xeZ a b) (.inr p)))) (by kernel_rfl) ?_;unfold xdE xlG;repeat' first|exact eN|exact eS rfl|apply eB
def xiH:Lp:=lpOf [3,6,7,8] [3,6,7,8] [(3,2,75),(6,2,75)] (pCons (pOsl 0 0 0) (pCons (pOsl 1 0 0) (pCons (pInt .i64) (pCons (pInt .i64) pNil)))) (pCons (pBox 0 2 75 false true pAny) (pCons (pBox 0 2 75 false true pAny) pNil)) fun (a,(c,(e,(i,_)))) (b,(d,_))=>((Iter (xdE a c) (e,i,b,d)).isSome,xeZ a c ((Iter (xdE a c) (e,i,b,d)).getD (0,0,[],[])))
theorem xuh:LoopOk Tryz.prog (ITryz.at xhx.pin) xhx.nt (loopAt Tryz.f72 1) xiH:=xbr fun g h k j=>by
 obtain ⟨a,⟨b,⟨e,⟨i,_⟩⟩⟩⟩:=g
 obtain ⟨c,⟨d,_⟩⟩:=h
 obtain ⟨f,rfl⟩:=Prod.mk.inj j
 exact xaH mxTryz (inv0Ok Tryz.prog _) rfl xup xq7 (xgc a b) (xeZ a b) (fun p=>by simp only [xeZ,LR.eval];first|(simp;done)|(repeat' split<;>simp)) (xvY a b) (s:=(e,i,c,d)) (xah f)
def xhX:Env:=xmw.fn 106 0 (lsOf []) (lpsOf [(3,xgV),(11,xiH)])
theorem xuL:OrcOk Tryz.prog (ITryz.at 0) xhX:=xjG.fn
theorem xq3:LoOk Tryz.prog (ITryz.at xhX.pin) xhX (loopAt Tryz.f72 3):=xaF (by kernel_rfl)
def xgW (i:Int) (a:LA):=decide (0+i.toNat<a.length)
def xf3 {T:Type} (b f:Nat) (e d i:Int) (a c:LA) (δ:T) (κl:(Int×Int×LA×LA)→T) (κr:(Int×Int×LA×LA)→T):T:=br (decide (i<(↑b:Int))) (br (decide (0≤i)&&decide (i<(↑b:Int))) (br (xgW i a&&hasSh1 (Sh.int .i64) ((a.getD (0+i.toNat) .top).cells.getD 0 .top)) (br (((a.getD (0+i.toNat) .top).cells.getD 0 .top).toInt==e) (br (decide (0≤i)&&decide (i<(↑b:Int))) (br (xgW i a&&hasSh1 (Sh.int .i64) ((a.getD (0+i.toNat) .top).cells.getD 1 .top)) (κl (i64.wrap (d+((a.getD (0+i.toNat) .top).cells.getD 1 .top).toInt),i64.wrap (i+1),a,c)) δ) δ) (κr (d,i,a,c))) δ) δ) (κr (d,i,a,c))
def xcm (b d:Nat) (e:Int):(Int×Int×LA×LA)→Option ((Int×Int×LA×LA)⊕(Int×Int×LA×LA)):=fun (f,i,a,c)=>xf3 b d e f i a c none (fun s=>some (.inl s)) (fun p=>some (.inr p))
def xfx (b d:Nat) (e:Int):(Int×Int×LA×LA)→LA×List Box:=fun (f,i,a,c)=>([AV.osl 0 0 0 b,AV.osl 1 0 0 d,AV.int .i64 f,AV.int .i64 i,AV.int .i64 e],[⟨0,2,75,a,false,true⟩,⟨0,2,75,c,false,true⟩])
def xfc (a b:Nat) (c:Int):(Int×Int×LA×LA)→LR:=fun p=>(.leaf (.exit 6) [AV.osl 0 0 0 a,AV.osl 1 0 0 b,AV.int .i64 p.1,AV.int .i64 p.2.1,AV.int .i64 c] [⟨0,2,75,p.2.2.1,false,true⟩,⟨0,2,75,p.2.2.2,false,true⟩])
abbrev xwh (a:LA) (H:List Box):=XR Tryz.prog xhX [3,6,7,8,9] [3,6,7,8,9] [(3,2,75),(6,2,75)] (loopAt Tryz.f72 3) a H
theorem xwe (a b:Nat) (c:Int) (s:Int×Int×LA×LA):Enc (encR (xfx a b c) (xfc a b c)) (xcm a b c s) (xwh (xfx a b c s).1 (xfx a b c s).2):=by
 obtain ⟨f,i,d,e⟩:=s
 refine eV (xf3 a b c f i d e none (fun s=>some (encR (xfx a b c) (xfc a b c) (.inl s))) (fun p=>some (encR (xfx a b c) (xfc a b c) (.inr p)))) (by kernel_rfl) ?_;unfold xcm xf3;repeat' first|exact eN|exact eS rfl|apply eB
def xkQ:Lp:=lpOf [3,6,7,8,9] [3,6,7,8,9] [(3,2,75),(6,2,75)] (pCons (pOsl 0 0 0) (pCons (pOsl 1 0 0) (pCons (pInt .i64) (pCons (pInt .i64) (pCons (pInt .i64) pNil))))) (pCons (pBox 0 2 75 false true pAny) (pCons (pBox 0 2 75 false true pAny) pNil)) fun (a,(c,(f,(i,(e,_))))) (b,(d,_))=>((Iter (xcm a c e) (f,i,b,d)).isSome,xfc a c e ((Iter (xcm a c e) (f,i,b,d)).getD (0,0,[],[])))
theorem xnc:LoopOk Tryz.prog (ITryz.at xhX.pin) xhX.nt (loopAt Tryz.f72 3) xkQ:=xbr fun h j l k=>by
 obtain ⟨a,⟨b,⟨f,⟨i,⟨d,_⟩⟩⟩⟩⟩:=h
 obtain ⟨c,⟨e,_⟩⟩:=j
 obtain ⟨g,rfl⟩:=Prod.mk.inj k
 exact xaH mxTryz (inv0Ok Tryz.prog _) rfl xuL xq3 (xfx a b d) (xfc a b d) (fun p=>by simp only [xfc,LR.eval];first|(simp;done)|(repeat' split<;>simp)) (xwe a b d) (s:=(f,i,c,e)) (xah g)
def xhY:Env:=xmw.fn 106 0 (lsOf []) (lpsOf [(3,xgV),(11,xiH),(17,xkQ)])
theorem xux:OrcOk Tryz.prog (ITryz.at 0) xhY:=xjG.fn
theorem xqG:LoOk Tryz.prog (ITryz.at xhY.pin) xhY (loopAt Tryz.f72 2):=xbd (ls:=[loopAt Tryz.f72 3]) (by kernel_rfl) (lkC xnc lkN)
def xgu (i:Int) (a:LA):=decide (0+i.toNat<a.length)&&hasSh1 (Sh.int .i64) ((a.getD (0+i.toNat) .top).cells.getD 0 .top)
def xfd (i:Int) (a:LA):=((a.getD (0+i.toNat) .top).cells.getD 0 .top).toInt
def xgE (b d:Nat) (e i:Int) (a c:LA):=Iter (xcm b d (xfd i a)) (e,i,a,c)
def xho (b d:Nat) (e i:Int) (a c:LA):=(xgE b d e i a c).getD (0,0,[],[])
def xgx (b d:Nat) (e i:Int) (a c:LA):=(xho b d e i a c).fst
def xhq (b d:Nat) (e i:Int) (a c:LA):=(xho b d e i a c).snd
def xhe (b d:Nat) (e i:Int) (a c:LA):=(xhq b d e i a c).snd
def xhi (b c:Nat) (e i:Int) (a d:LA):=xdo c (xfd i a) (xgx b c e i a d) (xhe b c e i a d).snd
def xhp (b d:Nat) (e i:Int) (a c:LA):=(xhi b d e i a c).getD (false,(0,[]),0,[])
def xgX (b d:Nat) (e i:Int) (a c:LA):=(xhp b d e i a c).fst
def xgZ (b d:Nat) (e i:Int) (a c:LA):=(xhp b d e i a c).snd
def xg3 (b d:Nat) (e i:Int) (a c:LA):=(xgZ b d e i a c).fst
def xg2 (b d:Nat) (e i:Int) (a c:LA):=(xgZ b d e i a c).snd
def xf7 {T:Type} (b d:Nat) (e i:Int) (a c:LA) (δ:T) (κl:(Nat×Int×Int×LA×LA)→T) (κr:(Nat×LA)→T):T:=br (decide (i<(↑b:Int))) (br (decide (0≤i)&&decide (i<(↑b:Int))) (br (xgu i a) (br (decide (xfd i a<1099511627776)) (br (decide (0≤i)&&decide (i<(↑b:Int))) (br (xgu i a) (br ((xgE b d e i a c).isSome) (br ((xhi b d e i a c).isSome) (κl (br (xgX b d e i a c) (xg3 b d e i a c).fst (xg2 b d e i a c).fst,xgx b d e i a c,(xhq b d e i a c).fst,(xhe b d e i a c).fst,br (xgX b d e i a c) (xg3 b d e i a c).snd (xg2 b d e i a c).snd)) δ) δ) δ) δ) (κr (d,c))) δ) δ) (κr (d,c))
def xcC (b:Nat):(Nat×Int×Int×LA×LA)→Option ((Nat×Int×Int×LA×LA)⊕(Nat×LA)):=fun (d,e,i,a,c)=>xf7 b d e i a c none (fun s=>some (.inl s)) (fun p=>some (.inr p))
def xf1 (b:Nat):(Nat×Int×Int×LA×LA)→LA×List Box:=fun (d,e,i,a,c)=>([AV.osl 0 0 0 b,AV.osl 1 0 0 d,AV.int .i64 e,AV.int .i64 i],[⟨0,2,75,a,false,true⟩,⟨0,2,75,c,false,true⟩])
def xfe (a:Nat):(Nat×LA)→LR:=fun p=>(.leaf (.exit 4) [AV.osl 0 0 0 p.1] [⟨0,2,75,p.2,false,true⟩])
abbrev xv3 (a:LA) (H:List Box):=XR Tryz.prog xhY [3,6,7,8] [6] [(3,2,75),(6,2,75)] (loopAt Tryz.f72 2) a H
theorem xv4 (a:Nat) (s:Nat×Int×Int×LA×LA):Enc (encR (xf1 a) (xfe a)) (xcC a s) (xv3 (xf1 a s).1 (xf1 a s).2):=by
 obtain ⟨d,e,i,b,c⟩:=s
 refine eV (xf7 a d e i b c none (fun s=>some (encR (xf1 a) (xfe a) (.inl s))) (fun p=>some (encR (xf1 a) (xfe a) (.inr p)))) (by kernel_rfl) ?_;unfold xcC xf7;repeat' first|exact eN|exact eS rfl|apply eB
def xoh:Lp:=lpOf [3,6,7,8] [6] [(3,2,75),(6,2,75)] (pCons (pOsl 0 0 0) (pCons (pOsl 1 0 0) (pCons (pInt .i64) (pCons (pInt .i64) pNil)))) (pCons (pBox 0 2 75 false true pAny) (pCons (pBox 0 2 75 false true pAny) pNil)) fun (a,(d,(e,(i,_)))) (b,(c,_))=>((Iter (xcC a) (d,e,i,b,c)).isSome,xfe a ((Iter (xcC a) (d,e,i,b,c)).getD (0,[])))
theorem xth:LoopOk Tryz.prog (ITryz.at xhY.pin) xhY.nt (loopAt Tryz.f72 2) xoh:=xbr fun g h k j=>by
 obtain ⟨a,⟨d,⟨e,⟨i,_⟩⟩⟩⟩:=g
 obtain ⟨b,⟨c,_⟩⟩:=h
 obtain ⟨f,rfl⟩:=Prod.mk.inj j
 exact xaH mxTryz (inv0Ok Tryz.prog _) rfl xux xqG (xf1 a) (xfe a) (fun p=>by simp only [xfe,LR.eval];first|(simp;done)|(repeat' split<;>simp)) (xv4 a) (s:=(d,e,i,b,c)) (xah f)
def xjg:Env:=xmw.fn 106 0 (lsOf []) (lpsOf [(3,xgV),(11,xiH),(17,xkQ),(15,xoh)])
theorem xuR:OrcOk Tryz.prog (ITryz.at 0) xjg:=xjG.fn
theorem xsE:LoOk Tryz.prog (ITryz.at xjg.pin) xjg (Tryz.f72.body.getD .skip):=xbd (ls:=[loopAt Tryz.f72 0,loopAt Tryz.f72 1,loopAt Tryz.f72 2,loopAt Tryz.f72 3]) (by kernel_rfl) (lkC xs2 (lkC xuh (lkC xth (lkC xnc lkN))))
def xme (l:LA):=(Iter (xcG l (↑l.length:Int)) (0,0,[])).getD (0,[])
def xid (l:LA):=(xme l).fst
def xka (l:LA):=(xme l).snd
def xmq (l:LA):=Iter (xdE (xid l) 0) (0,0,srtS (xka l),[])
def xmn (l:LA):=(xmq l).getD (0,0,[],[])
def xmv (l:LA):=(xmn l).fst
def xmM (l:LA):=(xmn l).snd
def xmR (l:LA):=(xmM l).snd
def xnW (l:LA):=xdo 0 0 (xmv l) (xmR l).snd
def xnE (l:LA):=(xnW l).getD (false,(0,[]),0,[])
def xnT (l:LA):=(xnE l).fst
def xnr (l:LA):=(xnE l).snd
def xnY (l:LA):=(xnr l).snd
def xnH (l:LA):=(xnr l).fst
def xnB (l:LA):=Iter (xcC (xid l)) (br (xnT l) (xnH l).fst (xnY l).fst,xmv l,(xmM l).fst,(xmR l).fst,br (xnT l) (xnH l).snd (xnY l).snd)
def xnC (l:LA):=(xnB l).getD (0,[])
def xnI (l:LA):=(xnC l).snd
def xnA (l:LA):=(xnC l).fst
def xlx {T:Type} (l:LA) (δ:T) (κ:LA→T):T:=br ((Iter (xcG l (↑l.length:Int)) (0,0,[])).isSome) (br ((xid l).beq (xka l).length&&(decide (xid l<4611686018427387904)&&(xka l).all isS)) (br ((xmq l).isSome) (br ((xnW l).isSome) (br ((xnB l).isSome) (br (decide (0+xnA l≤(xnI l).length)&&true) (κ (List.take (xnA l) (List.drop 0 (xnI l)))) δ) δ) δ) δ) δ) δ
def xij (l:LA):Option (LA):=xlx l none some
theorem xAK (l:LA):Enc (fun (p:LA)=>((AV.list 2 p):AV)) (xij l) (XF Tryz.prog xjg Tryz.f72 (Tryz.f72.body.getD .skip) [AV.list 3 l]):=by
 refine eV (xlx l none (fun (p:LA)=>some ((AV.list 2 p):AV))) (by kernel_rfl) ?_;unfold xij xlx;repeat' first|exact eN|exact eS rfl|apply eB
def xts:LA→Option (Bool×AV):=ocOf (sCons (sList 3 pAny) sNil) fun (l,_)=>((xij l).isSome,(AV.list 2 ((xij l).getD [])))
theorem xzS:OcOk Tryz.prog ITryz 72 (xts):=xax fun c f e=>by
 obtain ⟨l,_⟩:=c
 obtain ⟨a,b⟩:=Prod.mk.inj e
 refine xaL (p:=xjg.pin) (xaW mxTryz (inv0Ok Tryz.prog _) rfl xuR Tryz.func72 rfl (by kernel_rfl) xsE ((xAK _ _ (xah (d:=[]) a)).trans ?_))
 exact congrArg some b
def xt4:Env:=xmw.with 72 xts
theorem xqB:OrcOk Tryz.prog ITryz xt4:=xjG.with xzS
def xds:Env:=xt4.fn 20 0 (lsOf []) (lpsOf [])
theorem xnw:OrcOk Tryz.prog (ITryz.at 0) xds:=xqB.fn
theorem xlE:LoOk Tryz.prog (ITryz.at xds.pin) xds (loopAt Tryz.f45 0):=xaF (by kernel_rfl)
def xdO {T:Type} (d:LA) (e:Int) (b:Nat) (a:Int) (c:LA) (δ:T) (κl:(Nat×Int×LA)→T) (κr:(Nat×LA)→T):T:=br (decide (a<e)) (br (decide (0≤a)&&decide (a<d.length)) (br (decide (a.toNat<d.length)&&((d.getD a.toNat .top).cells.length==2&&hasShs [Sh.int .i64,Sh.int .i64] (d.getD a.toNat .top).cells 0)) (br (b==c.length&&(decide ((b+1)*24≤140737488355328)&&decide (b+1≤4611686018427387904))) (κl (b+1,i64.wrap (a+1),c++[AV.agg [AV.int .i64 ((d.getD a.toNat .top).cells.getD 0 .top).toInt,AV.int .i64 ((d.getD a.toNat .top).cells.getD 1 .top).toInt,AV.int .i64 1]])) δ) δ) δ) (κr (b,c))
def xa9 (c:LA) (d:Int):(Nat×Int×LA)→Option ((Nat×Int×LA)⊕(Nat×LA)):=fun (b,e,a)=>xdO c d b e a none (fun s=>some (.inl s)) (fun p=>some (.inr p))
def xcU (c:LA) (d:Int):(Nat×Int×LA)→LA×List Box:=fun (b,e,a)=>([AV.osl 0 0 0 b,AV.list 2 c,AV.int .i64 d,AV.int .i64 e],[⟨0,3,78,a,false,true⟩])
def xcz (a:LA) (b:Int):(Nat×LA)→LR:=fun p=>(.leaf (.exit 0) [AV.osl 0 0 0 p.1] [⟨0,3,78,p.2,false,true⟩])
abbrev xot (a:LA) (H:List Box):=XR Tryz.prog xds [3,6,7,8] [3] [(3,3,78)] (loopAt Tryz.f45 0) a H
theorem xoA (a:LA) (b:Int) (s:Nat×Int×LA):Enc (encR (xcU a b) (xcz a b)) (xa9 a b s) (xot (xcU a b s).1 (xcU a b s).2):=by
 obtain ⟨d,e,c⟩:=s
 refine eV (xdO a b d e c none (fun s=>some (encR (xcU a b) (xcz a b) (.inl s))) (fun p=>some (encR (xcU a b) (xcz a b) (.inr p)))) (by kernel_rfl) ?_;unfold xa9 xdO;repeat' first|exact eN|exact eS rfl|apply eB
def xjl:Lp:=lpOf [3,6,7,8] [3] [(3,3,78)] (pCons (pOsl 0 0 0) (pCons (pList 2 pAny) (pCons (pInt .i64) (pCons (pInt .i64) pNil)))) (pCons (pBox 0 3 78 false true pAny) pNil) fun (b,(c,(d,(e,_)))) (a,_)=>((Iter (xa9 c d) (b,e,a)).isSome,xcz c d ((Iter (xa9 c d) (b,e,a)).getD (0,[])))
theorem xm0:LoopOk Tryz.prog (ITryz.at xds.pin) xds.nt (loopAt Tryz.f45 0) xjl:=xbr fun f g j h=>by
 obtain ⟨d,⟨a,⟨b,⟨i,_⟩⟩⟩⟩:=f
 obtain ⟨c,_⟩:=g
 obtain ⟨e,rfl⟩:=Prod.mk.inj h
 exact xaH mxTryz (inv0Ok Tryz.prog _) rfl xnw xlE (xcU a b) (xcz a b) (fun p=>by simp only [xcz,LR.eval];first|(simp;done)|(repeat' split<;>simp)) (xoA a b) (s:=(d,i,c)) (xah e)
def xet:Env:=xt4.fn 20 0 (lsOf []) (lpsOf [(3,xjl)])
theorem xnG:OrcOk Tryz.prog (ITryz.at 0) xet:=xqB.fn
theorem xmH:LoOk Tryz.prog (ITryz.at xet.pin) xet (Tryz.f45.body.getD .skip):=xbd (ls:=[loopAt Tryz.f45 0]) (by kernel_rfl) (lkC xm0 lkN)
def xh3 (l:LA):=(Iter (xa9 l (↑l.length:Int)) (0,0,[])).getD (0,[])
def xh4 (l:LA):=(xh3 l).snd
def xh5 (l:LA):=(xh3 l).fst
def xh6 (l:LA):=xij (List.take (xh5 l) (List.drop 0 (xh4 l)))
def xgz {T:Type} (l:LA) (δ:T) (κ:LA→T):T:=br ((Iter (xa9 l (↑l.length:Int)) (0,0,[])).isSome) (br (decide (0+xh5 l≤(xh4 l).length)&&true) (br ((xh6 l).isSome) (κ ((xh6 l).getD [])) δ) δ) δ
def xc3 (l:LA):Option (LA):=xgz l none some
theorem xp3 (l:LA):Enc (fun (p:LA)=>((AV.list 2 p):AV)) (xc3 l) (XF Tryz.prog xet Tryz.f45 (Tryz.f45.body.getD .skip) [AV.list 2 l]):=by
 refine eV (xgz l none (fun (p:LA)=>some ((AV.list 2 p):AV))) (by kernel_rfl) ?_;unfold xc3 xgz;repeat' first|exact eN|exact eS rfl|apply eB
def xll:LA→Option (Bool×AV):=ocOf (sCons (sList 2 pAny) sNil) fun (l,_)=>((xc3 l).isSome,(AV.list 2 ((xc3 l).getD [])))
theorem xqe:OcOk Tryz.prog ITryz 45 (xll):=xax fun c f e=>by
 obtain ⟨l,_⟩:=c
 obtain ⟨a,b⟩:=Prod.mk.inj e
 refine xaL (p:=xet.pin) (xaW mxTryz (inv0Ok Tryz.prog _) rfl xnG Tryz.func45 rfl (by kernel_rfl) xmH ((xp3 _ _ (xah (d:=[]) a)).trans ?_))
 exact congrArg some b
def xB0:Env:=xt4.with 45 xll
theorem xB1:OrcOk Tryz.prog ITryz xB0:=xqB.with xqe
abbrev EKP1:Env:=xB0
theorem xrl:OrcOk Tryz.prog ITryz EKP1:=xB1
end Go.Sim.M
end
noncomputable section
set_option maxRecDepth 100000
namespace Go.Sim.M
open Go.IntKind (i64 u64 u8)
open Go.RowKit Go.Proofs
def xf8:Env:=EKP1.fn 71 5 (lsOf []) (lpsOf [])
theorem xsq:OrcOk Tryz.prog (ITryz.at 5) xf8:=xrl.fn
theorem xoS:LoOk Tryz.prog (ITryz.at xf8.pin) xf8 (loopAt Tryz.f68 1):=xaF (by kernel_rfl)
def xj3 {T:Type} (o n:Int) (f g:Nat) (k p m j:Int) (i l d h a:Nat) (b:LA) (e:Nat) (c:LA) (δ:T) (κl:(Int×Int×Nat×Nat×Nat×Nat×Nat×LA×Nat×LA)→T) (κr:(Int×Nat×Nat×Nat×Nat×LA×Nat×LA×Nat)→T):T:=br (decide (m<p)) (br (a==f) (br (a==f) (br (a==f&&(decide (g<b.length)&&hasSh1 (Sh.int .i64) ((b.getD g .top).cells.getD 0 .top))) (br (e==h&&(d==c.length&&(decide ((d+1)*16≤140737488355328)&&decide (d+1≤4611686018427387904)))) (κl (i64.wrap (m+1),j,i,l,d+1,h+1,a,List.take i b,h+1,c++[AV.agg [AV.int .i64 ((b.getD g .top).cells.getD 0 .top).toInt,AV.int .i64 o]])) δ) δ) δ) δ) (κr (j,l,i,h,d,b,a,c,e))
def xeN (m n:Int) (e f:Nat) (k o:Int):(Int×Int×Nat×Nat×Nat×Nat×Nat×LA×Nat×LA)→Option ((Int×Int×Nat×Nat×Nat×Nat×Nat×LA×Nat×LA)⊕(Int×Nat×Nat×Nat×Nat×LA×Nat×LA×Nat)):=fun (q,g,h,i,j,l,a,b,c,d)=>xj3 m n e f k o q g h i j l a b c d none (fun s=>some (.inl s)) (fun p=>some (.inr p))
def xex (m n:Int) (e f:Nat) (k o:Int):(Int×Int×Nat×Nat×Nat×Nat×Nat×LA×Nat×LA)→LA×List Box:=fun (p,g,h,i,j,l,a,b,c,d)=>([AV.int .i64 m,AV.int .i64 n,AV.own 0 0 0 0,AV.own 1 0 0 0,AV.own 2 0 0 0,AV.own 3 e f 0,AV.int .i64 k,AV.int .i64 o,AV.int .i64 p],[⟨0,1,3,[AV.int .i64 g],false,true⟩,⟨0,1,84,[AV.osl 3 i 0 h],false,false⟩,⟨0,1,53,[AV.osl 4 l 0 j],false,false⟩,⟨a,2,86,b,false,true⟩,⟨c,2,31,d,false,true⟩])
def xeb (c n:Int) (a b:Nat) (k d:Int):(Int×Nat×Nat×Nat×Nat×LA×Nat×LA×Nat)→LR:=fun p=>(.leaf (.exit 2) [AV.int .i64 c,AV.int .i64 n,AV.own 0 0 0 0,AV.own 1 0 0 0,AV.own 2 0 0 0,AV.own 3 a b 0,AV.int .i64 k] [⟨0,1,3,[AV.int .i64 p.1],false,true⟩,⟨0,1,84,[AV.osl 3 p.2.1 0 p.2.2.1],false,false⟩,⟨0,1,53,[AV.osl 4 p.2.2.2.1 0 p.2.2.2.2.1],false,false⟩,⟨p.2.2.2.2.2.2.1,2,86,p.2.2.2.2.2.1,false,true⟩,⟨p.2.2.2.2.2.2.2.2,2,31,p.2.2.2.2.2.2.2.1,false,true⟩])
abbrev xs6 (a:LA) (H:List Box):=XR Tryz.prog xf8 [0,1,2,3,4,7,8,37,38] [0,1,2,3,4,7,8] [(3,0,0)] (loopAt Tryz.f68 1) a H
theorem xtP (c n:Int) (a b:Nat) (k d:Int) (s:Int×Int×Nat×Nat×Nat×Nat×Nat×LA×Nat×LA):Enc (encR (xex c n a b k d) (xeb c n a b k d)) (xeN c n a b k d s) (xs6 (xex c n a b k d s).1 (xex c n a b k d s).2):=by
 obtain ⟨q,i,j,l,m,o,e,f,g,h⟩:=s
 refine eV (xj3 c n a b k d q i j l m o e f g h none (fun s=>some (encR (xex c n a b k d) (xeb c n a b k d) (.inl s))) (fun p=>some (encR (xex c n a b k d) (xeb c n a b k d) (.inr p)))) (by kernel_rfl) ?_;unfold xeN xj3;repeat' first|exact eN|exact eS rfl|apply eB
def xju:Lp:=lpOf [0,1,2,3,4,7,8,37,38] [0,1,2,3,4,7,8] [(3,0,0)] (pCons (pInt .i64) (pCons (pInt .i64) (pCons (pOwn 0 0 0 0) (pCons (pOwn 1 0 0 0) (pCons (pOwn 2 0 0 0) (pCons (pOwnV 3 0) (pCons (pInt .i64) (pCons (pInt .i64) (pCons (pInt .i64) pNil))))))))) (pCons (pBox 0 1 3 false true (pCons (pInt .i64) pNil)) (pCons (pBox 0 1 84 false false (pCons (pOslV 3 0) pNil)) (pCons (pBox 0 1 53 false false (pCons (pOslV 4 0) pNil)) (pCons (pBoxV 2 86 false true pAny) (pCons (pBoxV 2 31 false true pAny) pNil))))) fun (g,(n,(_,(_,(_,((e,f),(k,(h,(p,_))))))))) ((i,_),(((j,l),_),(((m,o),_),((a,b),((c,d),_)))))=>((Iter (xeN g n e f k h) (p,i,l,j,o,m,a,b,c,d)).isSome,xeb g n e f k h ((Iter (xeN g n e f k h) (p,i,l,j,o,m,a,b,c,d)).getD (0,0,0,0,0,[],0,[],0)))
theorem xlM:LoopOk Tryz.prog (ITryz.at xf8.pin) xf8.nt (loopAt Tryz.f68 1) xju:=xbr fun t u w v=>by
 obtain ⟨g,⟨n,⟨_,⟨_,⟨_,⟨⟨a,b⟩,⟨k,⟨h,⟨q,_⟩⟩⟩⟩⟩⟩⟩⟩⟩:=t
 obtain ⟨⟨i,_⟩,⟨⟨⟨j,l⟩,_⟩,⟨⟨⟨m,o⟩,_⟩,⟨⟨c,d⟩,⟨⟨e,f⟩,_⟩⟩⟩⟩⟩:=u
 obtain ⟨r,rfl⟩:=Prod.mk.inj v
 exact xaH mxTryz (inv0Ok Tryz.prog _) rfl xsq xoS (xex g n a b k h) (xeb g n a b k h) (fun p=>by simp only [xeb,LR.eval];first|(simp;done)|(repeat' split<;>simp)) (xtP g n a b k h) (s:=(q,i,l,j,o,m,c,d,e,f)) (xah r)
def xf9:Env:=EKP1.fn 71 5 (lsOf []) (lpsOf [(7,xju)])
theorem xsV:OrcOk Tryz.prog (ITryz.at 5) xf9:=xrl.fn
theorem xo2:LoOk Tryz.prog (ITryz.at xf9.pin) xf9 (loopAt Tryz.f68 0):=xbd (ls:=[loopAt Tryz.f68 1]) (by kernel_rfl) (lkC xlM lkN)
def xbM (a:Nat):Nat:=0+(i64.wrap ((↑a:Int) - 1)).toNat
def xfj (n b:Int) (c d:Nat) (a:LA):Int:=if i64.wrap (b - n)<((a.getD (xbM c) .top).cells.getD 1 .top).toInt then i64.wrap (b - n) else ((a.getD (xbM c) .top).cells.getD 1 .top).toInt
def xlR (j n d:Int) (c g h i a:Nat) (b:LA) (e:Nat) (f:LA):=Iter (xeN j n g (xbM c) (xfj n d c a b) (xfj n d c a b)) (0,d,c,g,h,i,a,List.take c b,e,f)
def xi3 (j n e:Int) (f g h i a:Nat) (b:LA) (c:Nat) (d:LA):=(xlR j n e f g h i a b c d).getD (0,0,0,0,0,[],0,[],0)
def xlT (j n e:Int) (f g h i a:Nat) (b:LA) (c:Nat) (d:LA):=(xi3 j n e f g h i a b c d).snd
def xhz (j n e:Int) (f g h i a:Nat) (b:LA) (c:Nat) (d:LA):=(xlT j n e f g h i a b c d).fst
def xlS (j n e:Int) (f g h i a:Nat) (b:LA) (c:Nat) (d:LA):=(xlT j n e f g h i a b c d).snd
def xhB (j n e:Int) (f g h i a:Nat) (b:LA) (c:Nat) (d:LA):=(xlS j n e f g h i a b c d).fst
def xix (j n e:Int) (f g h i a:Nat) (b:LA) (c:Nat) (d:LA):=(xlS j n e f g h i a b c d).snd
def xhv (j n e:Int) (f g h i a:Nat) (b:LA) (c:Nat) (d:LA):=i64.wrap ((↑(xhB j n e f g h i a b c d):Int) - 1)
def xi0 (j n e:Int) (f g h i a:Nat) (b:LA) (c:Nat) (d:LA):=(xix j n e f g h i a b c d).snd
def xlV (j n e:Int) (f g h i a:Nat) (b:LA) (c:Nat) (d:LA):=(xi0 j n e f g h i a b c d).snd
def xjw (j n e:Int) (f g h i a:Nat) (b:LA) (c:Nat) (d:LA):=(xlV j n e f g h i a b c d).fst
def xmP (j n e:Int) (f g h i a:Nat) (b:LA) (c:Nat) (d:LA):=(xlV j n e f g h i a b c d).snd
def xeH (j n f:Int) (g e h i a:Nat) (b:LA) (c:Nat) (d:LA):=(xmP j n f g e h i a b c d).fst==e
def xmD (j n f:Int) (e g h i a:Nat) (b:LA) (c:Nat) (d:LA):=decide (xbM e<(xjw j n f e g h i a b c d).length)
def xhE (j n f:Int) (e g h i a:Nat) (b:LA) (c:Nat) (d:LA):=((xjw j n f e g h i a b c d).getD (xbM e) .top).cells
def xhG (j n e:Int) (f g h i a:Nat) (b:LA) (c:Nat) (d:LA):=(xmP j n e f g h i a b c d).snd
def xfR (j n f:Int) (e g h i a:Nat) (b:LA) (c:Nat) (d:LA):=(xjw j n f e g h i a b c d).set (xbM e) (AV.agg (List.take 1 (xhE j n f e g h i a b c d)++[AV.int .i64 (i64.wrap (((xhE j n f e g h i a b c d).getD 1 .top).toInt - xfj n f e a b))]++List.drop 2 (xhE j n f e g h i a b c d)))
def xkl {T:Type} (j n g:Int) (f e h i a:Nat) (b:LA) (c:Nat) (d:LA) (δ:T) (κl:(Int×Nat×Nat×Nat×Nat×Nat×LA×Nat×LA)→T) (κr:(Int×Nat×Nat×Nat×Nat×LA×Nat×LA×Nat)→T):T:=br (decide (g>n)) (br (a==e) (br (a==e&&(decide (0≤i64.wrap ((↑f:Int) - 1))&&decide (i64.wrap ((↑f:Int) - 1)<(↑f:Int)))) (br (a==e) (br (a==e) (br (a==e&&(decide (xbM f<b.length)&&hasSh1 (Sh.int .i64) ((b.getD (xbM f) .top).cells.getD 1 .top))) (br ((xlR j n g f e h i a b c d).isSome) (br (xeH j n g f e h i a b c d) (br (xeH j n g f e h i a b c d) (br (xeH j n g f e h i a b c d&&(xmD j n g f e h i a b c d&&hasSh1 (Sh.int .i64) ((xhE j n g f e h i a b c d).getD 1 .top))) (br (xeH j n g f e h i a b c d) (br (xeH j n g f e h i a b c d) (br (xeH j n g f e h i a b c d&&xmD j n g f e h i a b c d) (br (e==e) (br (e==e) (br (e==e&&(decide (xbM f<(xfR j n g f e h i a b c d).length)&&hasSh1 (Sh.int .i64) (((xfR j n g f e h i a b c d).getD (xbM f) .top).cells.getD 1 .top))) (br ((((xfR j n g f e h i a b c d).getD (xbM f) .top).cells.getD 1 .top).toInt==0) (br (e==xhz j n g f e h i a b c d) (br (e==xhz j n g f e h i a b c d&&(decide (0≤xhv j n g f e h i a b c d)&&decide (xhv j n g f e h i a b c d≤(↑(xhB j n g f e h i a b c d):Int))&&true)) (κl (i64.wrap ((xi3 j n g f e h i a b c d).fst - xfj n g f a b),(xhv j n g f e h i a b c d).toNat - 0,xhz j n g f e h i a b c d,(xi0 j n g f e h i a b c d).fst,(xix j n g f e h i a b c d).fst,e,List.take ((xhv j n g f e h i a b c d).toNat - 0) (xfR j n g f e h i a b c d),(xhG j n g f e h i a b c d).snd,(xhG j n g f e h i a b c d).fst)) δ) δ) (κl (i64.wrap ((xi3 j n g f e h i a b c d).fst - xfj n g f a b),xhB j n g f e h i a b c d,xhz j n g f e h i a b c d,(xi0 j n g f e h i a b c d).fst,(xix j n g f e h i a b c d).fst,e,List.take (xhB j n g f e h i a b c d) (xfR j n g f e h i a b c d),(xhG j n g f e h i a b c d).snd,(xhG j n g f e h i a b c d).fst))) δ) δ) δ) δ) δ) δ) δ) δ) δ) δ) δ) δ) δ) δ) δ) (κr (g,e,f,i,h,b,a,d,c))
def xdG (j n:Int):(Int×Nat×Nat×Nat×Nat×Nat×LA×Nat×LA)→Option ((Int×Nat×Nat×Nat×Nat×Nat×LA×Nat×LA)⊕(Int×Nat×Nat×Nat×Nat×LA×Nat×LA×Nat)):=fun (e,f,g,h,i,a,b,c,d)=>xkl j n e f g h i a b c d none (fun s=>some (.inl s)) (fun p=>some (.inr p))
def xeX (j n:Int):(Int×Nat×Nat×Nat×Nat×Nat×LA×Nat×LA)→LA×List Box:=fun (e,f,g,h,i,a,b,c,d)=>([AV.int .i64 j,AV.int .i64 n,AV.own 0 0 0 0,AV.own 1 0 0 0,AV.own 2 0 0 0],[⟨0,1,3,[AV.int .i64 e],false,true⟩,⟨0,1,84,[AV.osl 3 g 0 f],false,false⟩,⟨0,1,53,[AV.osl 4 i 0 h],false,false⟩,⟨a,2,86,b,false,true⟩,⟨c,2,31,d,false,true⟩])
def xd7 (a n:Int):(Int×Nat×Nat×Nat×Nat×LA×Nat×LA×Nat)→LR:=fun p=>(.leaf (.exit 0) [] [⟨0,1,3,[AV.int .i64 p.1],false,true⟩,⟨0,1,84,[AV.osl 3 p.2.1 0 p.2.2.1],false,false⟩,⟨0,1,53,[AV.osl 4 p.2.2.2.1 0 p.2.2.2.2.1],false,false⟩,⟨p.2.2.2.2.2.2.1,2,86,p.2.2.2.2.2.1,false,true⟩,⟨p.2.2.2.2.2.2.2.2,2,31,p.2.2.2.2.2.2.2.1,false,true⟩])
abbrev xty (a:LA) (H:List Box):=XR Tryz.prog xf9 [0,1,2,3,4] [] [(3,0,0)] (loopAt Tryz.f68 0) a H
theorem xtL (a n:Int) (s:Int×Nat×Nat×Nat×Nat×Nat×LA×Nat×LA):Enc (encR (xeX a n) (xd7 a n)) (xdG a n s) (xty (xeX a n s).1 (xeX a n s).2):=by
 obtain ⟨f,g,h,i,j,b,c,d,e⟩:=s
 refine eV (xkl a n f g h i j b c d e none (fun s=>some (encR (xeX a n) (xd7 a n) (.inl s))) (fun p=>some (encR (xeX a n) (xd7 a n) (.inr p)))) (by kernel_rfl) ?_;unfold xdG xkl;repeat' first|exact eN|exact eS rfl|apply eB
def xms:Lp:=lpOf [0,1,2,3,4] [] [(3,0,0)] (pCons (pInt .i64) (pCons (pInt .i64) (pCons (pOwn 0 0 0 0) (pCons (pOwn 1 0 0 0) (pCons (pOwn 2 0 0 0) pNil))))) (pCons (pBox 0 1 3 false true (pCons (pInt .i64) pNil)) (pCons (pBox 0 1 84 false false (pCons (pOslV 3 0) pNil)) (pCons (pBox 0 1 53 false false (pCons (pOslV 4 0) pNil)) (pCons (pBoxV 2 86 false true pAny) (pCons (pBoxV 2 31 false true pAny) pNil))))) fun (e,(n,(_,(_,(_,_))))) ((f,_),(((g,h),_),(((i,j),_),((a,b),((c,d),_)))))=>((Iter (xdG e n) (f,h,g,j,i,a,b,c,d)).isSome,xd7 e n ((Iter (xdG e n) (f,h,g,j,i,a,b,c,d)).getD (0,0,0,0,0,[],0,[],0)))
theorem xrN:LoopOk Tryz.prog (ITryz.at xf9.pin) xf9.nt (loopAt Tryz.f68 0) xms:=xbr fun l m q o=>by
 obtain ⟨e,⟨n,⟨_,⟨_,⟨_,_⟩⟩⟩⟩⟩:=l
 obtain ⟨⟨f,_⟩,⟨⟨⟨g,h⟩,_⟩,⟨⟨⟨i,j⟩,_⟩,⟨⟨a,b⟩,⟨⟨c,d⟩,_⟩⟩⟩⟩⟩:=m
 obtain ⟨k,rfl⟩:=Prod.mk.inj o
 exact xaH mxTryz (inv0Ok Tryz.prog _) rfl xsV xo2 (xeX e n) (xd7 e n) (fun p=>by simp only [xd7,LR.eval];first|(simp;done)|(repeat' split<;>simp)) (xtL e n) (s:=(f,h,g,j,i,a,b,c,d)) (xah k)
def xhM:Env:=EKP1.fn 71 5 (lsOf []) (lpsOf [(7,xju),(3,xms)])
theorem xsz:OrcOk Tryz.prog (ITryz.at 5) xhM:=xrl.fn
theorem xqV:LoOk Tryz.prog (ITryz.at xhM.pin) xhM (Tryz.f68.body.getD .skip):=xbd (ls:=[loopAt Tryz.f68 0,loopAt Tryz.f68 1]) (by kernel_rfl) (lkC xrN (lkC xlM lkN))
def xou (a n h:Int) (b c:Nat) (d e:LA):=Iter (xdG a n) (n,b+1,1,c,0,1,List.take (b+1) (d++[AV.agg [AV.int .i64 a,AV.int .i64 (i64.wrap (n - h))]]),0,e)
def xof (a n h:Int) (b c:Nat) (d e:LA):=Iter (xdG a n) (h,b,0,c,0,0,List.take b d,0,e)
def xn5 (a n h:Int) (b c:Nat) (d e:LA):=(xou a n h b c d e).getD (0,0,0,0,0,[],0,[],0)
def xod (a n h:Int) (b c:Nat) (d e:LA):=(xof a n h b c d e).getD (0,0,0,0,0,[],0,[],0)
def xpA (a n h:Int) (b c:Nat) (d e:LA):=(xn5 a n h b c d e).snd
def xow (a n h:Int) (b c:Nat) (d e:LA):=(xod a n h b c d e).snd
def xpg (a n h:Int) (b c:Nat) (d e:LA):=(xpA a n h b c d e).snd
def xov (a n h:Int) (b c:Nat) (d e:LA):=(xow a n h b c d e).snd
def xpc (a n h:Int) (b c:Nat) (d e:LA):=(xpg a n h b c d e).snd
def xok (a n h:Int) (b c:Nat) (d e:LA):=(xov a n h b c d e).snd
def xpn (a n h:Int) (b c:Nat) (d e:LA):=(xpc a n h b c d e).snd
def xoz (a n h:Int) (b c:Nat) (d e:LA):=(xok a n h b c d e).snd
def xpw (a n h:Int) (b c:Nat) (d e:LA):=(xpn a n h b c d e).snd
def xpp (a n h:Int) (b c:Nat) (d e:LA):=(xoz a n h b c d e).snd
def xpj (a n h:Int) (b c:Nat) (d e:LA):=(xpw a n h b c d e).snd
def xpd (a n h:Int) (b c:Nat) (d e:LA):=(xpp a n h b c d e).snd
def xpk (a n h:Int) (b c:Nat) (d e:LA):=(xpj a n h b c d e).snd
def xpy (a n h:Int) (b c:Nat) (d e:LA):=(xpd a n h b c d e).snd
def xmr {T:Type} (a n h:Int) (b d:Nat) (c e:LA) (δ:T) (κ:Int×Nat×Nat×Nat×Nat×LA×Nat×LA×Nat→T):T:=br (decide (n>h)) (br (b==c.length&&(decide ((b+1)*16≤140737488355328)&&decide (b+1≤4611686018427387904))) (br ((xou a n h b d c e).isSome) (κ ((xn5 a n h b d c e).fst,(xpA a n h b d c e).fst,(xpg a n h b d c e).fst,(xpc a n h b d c e).fst,(xpn a n h b d c e).fst,(xpw a n h b d c e).fst,(xpj a n h b d c e).fst,(xpk a n h b d c e).fst,(xpk a n h b d c e).snd)) δ) δ) (br ((xof a n h b d c e).isSome) (κ ((xod a n h b d c e).fst,(xow a n h b d c e).fst,(xov a n h b d c e).fst,(xok a n h b d c e).fst,(xoz a n h b d c e).fst,(xpp a n h b d c e).fst,(xpd a n h b d c e).fst,(xpy a n h b d c e).fst,(xpy a n h b d c e).snd)) δ)
def xlW (a n h:Int) (b c:Nat) (d e:LA):Option (Int×Nat×Nat×Nat×Nat×LA×Nat×LA×Nat):=xmr a n h b c d e none some
theorem xw6 (a n h:Int) (b c:Nat) (d e:LA):Enc (fun (p:Int×Nat×Nat×Nat×Nat×LA×Nat×LA×Nat)=>(((AV.tuple [],([⟨0,1,3,[AV.int .i64 p.1],false,true⟩,⟨0,1,84,[AV.osl 3 p.2.1 0 p.2.2.1],false,false⟩,⟨0,1,53,[AV.osl 4 p.2.2.2.1 0 p.2.2.2.2.1],false,false⟩,⟨p.2.2.2.2.2.2.1,2,86,p.2.2.2.2.2.1,false,true⟩,⟨p.2.2.2.2.2.2.2.2,2,31,p.2.2.2.2.2.2.2.1,false,true⟩]:List Box))):(AV×List Box))) (xlW a n h b c d e) (XFM Tryz.prog xhM Tryz.f68 (Tryz.f68.body.getD .skip) [AV.int .i64 a,AV.int .i64 n,AV.own (0:Id) 0 0 0,AV.own (1:Id) 0 0 0,AV.own (2:Id) 0 0 0] [{ ver:=0,sz:=1,ty:=(3:TypeId),xs:=[AV.int .i64 h],frz:=false,pm:=true },{ ver:=0,sz:=1,ty:=(84:TypeId),xs:=[AV.osl (3:Id) 0 0 b],frz:=false,pm:=false },{ ver:=0,sz:=1,ty:=(53:TypeId),xs:=[AV.osl (4:Id) 0 0 c],frz:=false,pm:=false },{ ver:=0,sz:=2,ty:=(86:TypeId),xs:=d,frz:=false,pm:=true },{ ver:=0,sz:=2,ty:=(31:TypeId),xs:=e,frz:=false,pm:=true }]):=by
 refine eV (xmr a n h b c d e none (fun (p:Int×Nat×Nat×Nat×Nat×LA×Nat×LA×Nat)=>some (((AV.tuple [],([⟨0,1,3,[AV.int .i64 p.1],false,true⟩,⟨0,1,84,[AV.osl 3 p.2.1 0 p.2.2.1],false,false⟩,⟨0,1,53,[AV.osl 4 p.2.2.2.1 0 p.2.2.2.2.1],false,false⟩,⟨p.2.2.2.2.2.2.1,2,86,p.2.2.2.2.2.1,false,true⟩,⟨p.2.2.2.2.2.2.2.2,2,31,p.2.2.2.2.2.2.2.1,false,true⟩]:List Box))):(AV×List Box)))) (by kernel_rfl) ?_;unfold xlW xmr;repeat' first|exact eN|exact eS rfl|apply eB
end Go.Sim.M
end
noncomputable section
set_option maxRecDepth 100000
namespace Go.Sim
open Go.RowKit
theorem GoodM.aged {P:Program} {Inv:IV} {f:FuncId} {args:List AV} {H:List Box} {x0:AV} {v3 v4 k3 k4 t0 t1 t2 t3 t4 s3 s4:Nat} {xs3 xs4:List AV} (hlen:H.length=5) (hz3:∀ bx,H[3]?=some bx→bx.ver=0) (hz4:∀ bx,H[4]?=some bx→bx.ver=0)
  (p0:isC t0=false) (p1:isC t1=false) (p2:isC t2=false) (p3:isC t3=false) (p4:isC t4=false)
  (h:GoodM P Inv f args H (.tuple []) [⟨0,1,t0,[x0],false,true⟩,⟨0,1,t1,[.osl (.b 3) v3 0 k3],false,false⟩,⟨0,1,t2,[.osl (.b 4) v4 0 k4],false,false⟩,⟨v3,s3,t3,xs3,false,true⟩,⟨v4,s4,t4,xs4,false,true⟩]) :
  GoodM P Inv f args H (.tuple []) [⟨0,1,t0,[x0],false,true⟩,⟨0,1,t1,[.osl (.b 3) 1 0 k3],false,false⟩,⟨0,1,t2,[.osl (.b 4) 1 0 k4],false,false⟩,⟨1,s3,t3,xs3,false,true⟩,⟨1,s4,t4,xs4,false,true⟩]:=by
 refine ⟨h.1,fun w0 w A M vs hI hB hR hrc=>(h.2 w0 w A M vs hI hB hR hrc).mono ?_⟩
 rintro e w' ⟨u,A',M',rfl,h1,h2,h3,h4,h5⟩
 let M'':Id→Option MB:=fun id=>if id=.b 3∨id=.b 4 then (M' id).map fun m=>⟨m.b,1,m.sz,m.cap,m.ty⟩ else M' id
 have e3:∀ m,M' (.b 3)=some m→M'' (.b 3)=some ⟨m.b,1,m.sz,m.cap,m.ty⟩:=fun m hm=>by simp [M'',hm]
 have e4:∀ m,M' (.b 4)=some m→M'' (.b 4)=some ⟨m.b,1,m.sz,m.cap,m.ty⟩:=fun m hm=>by
  show (if (Id.b 4=.b 3∨Id.b 4=.b 4) then _ else _)=_
  rw [if_pos (.inr rfl),hm];rfl
 have eo:∀ id,id≠.b 3→id≠.b 4→M'' id=M' id:=fun id g1 g2=>by
  show (if _ then _ else _)=_
  rw [if_neg (fun e=>e.elim g1 g2)]
 have hsrc:∀ id m1,M'' id=some m1→∃ m0,M' id=some m0∧m1.b=m0.b∧m1.cap=m0.cap∧m1.sz=m0.sz∧m1.ty=m0.ty:=fun id m1 hm1=>by
  by_cases g3:id=.b 3
  · subst g3
    cases hm:M' (.b 3) with
    | none=>simp [M'',hm] at hm1
    | some m=>rw [e3 m hm] at hm1;simp only [Option.some.injEq] at hm1;subst hm1;exact ⟨m,rfl,rfl,rfl,rfl,rfl⟩
  · by_cases g4:id=.b 4
    · subst g4
      cases hm:M' (.b 4) with
      | none =>
       have:M'' (.b 4)=none:=by
        show (if (Id.b 4=.b 3∨Id.b 4=.b 4) then _ else _)=_
        rw [if_pos (.inr rfl),hm];rfl
       rw [this] at hm1;cases hm1
      | some m=>rw [e4 m hm] at hm1;simp only [Option.some.injEq] at hm1;subst hm1;exact ⟨m,rfl,rfl,rfl,rfl,rfl⟩
    · rw [eo id g3 g4] at hm1
      exact ⟨m1,hm1,rfl,rfl,rfl,rfl⟩
 have hosl:∀ (n v k:Nat) (c:Value) (m:MB),M' (.b n)=some m→M'' (.b n)=some ⟨m.b,1,m.sz,m.cap,m.ty⟩→v=m.ver→Rel w' A' M' c (.osl (.b n) v 0 k)→Rel w' A' M'' c (.osl (.b n) 1 0 k):=fun n v k c m hm hm'' hv hr=>by
  obtain ⟨m0,g1,g2,g3,g4⟩:=Rel.osl_inv hr
  rw [hm] at g1
  simp only [Option.some.injEq] at g1
  subst g1
  exact .osl c (.b n) 1 0 k _ hm'' (Nat.le_refl _) g3 fun _=>g4 hv
 have hbox:∀ (n:Nat) (bx:Box) (m:MB),[⟨0,1,t0,[x0],false,true⟩,⟨0,1,t1,[.osl (.b 3) v3 0 k3],false,false⟩,⟨0,1,t2,[.osl (.b 4) v4 0 k4],false,false⟩,⟨v3,s3,t3,xs3,false,true⟩,⟨v4,s4,t4,xs4,false,true⟩][n]?=some bx→M' (.b n)=some m→BoxAt w' A' M' w0.heap.size (.b n) m bx:=fun n bx m hn hm=>by
  obtain ⟨bx',g1,g2⟩:=h4.box _ m hm
  rw [xdN,hn] at g1
  simp only [Option.some.injEq] at g1
  subst g1
  exact g2
 have hpure:∀ (id:Id) (bx:Box) (m:MB) (v:Nat),isC bx.ty=false→bx.pm=true→BoxAt w' A' M' w0.heap.size id m bx→BoxAt w' A' M'' w0.heap.size id ⟨m.b,v,m.sz,m.cap,m.ty⟩ ⟨v,bx.sz,bx.ty,bx.xs,bx.frz,bx.pm⟩:=fun id bx m v hpl hp g=>by
  have hnm:isMapT m.ty=false:=g.nomap (xbK hpl)
  refine ⟨rfl,g.sz,g.ty,g.capm,g.fits,g.ok,g.low,g.lt,fun h0=>?_,g.guard⟩
  obtain ⟨c,c1,c2,c3⟩:=g.cells h0
  refine ⟨c,.of hnm (c1.plain hnm),c2,fun i j hi hj=>?_⟩
  have:=c3 i j hi hj
  rw [xaX hpl,xb2 hpl,hp] at this
  rw [xaX hpl,xb2 (bx:=⟨v,bx.sz,bx.ty,bx.xs,bx.frz,bx.pm⟩) hpl]
  show Rel w' A' (MP M'' bx.pm) _ _
  rw [hp]
  exact this
 have hvar:∀ (n n2 v k t:Nat) (m m2:MB),isC t=false→n≠3→n≠4→BoxAt w' A' M' w0.heap.size (.b n) m ⟨0,1,t,[.osl (.b n2) v 0 k],false,false⟩→M' (.b n2)=some m2→M'' (.b n2)=some ⟨m2.b,1,m2.sz,m2.cap,m2.ty⟩→v=m2.ver →
   BoxAt w' A' M'' w0.heap.size (.b n) m ⟨0,1,t,[.osl (.b n2) 1 0 k],false,false⟩:=fun n n2 v k t m m2 hpl _ _ g hm2 hm2'' hv=>by
  have hnm:isMapT m.ty=false:=g.nomap (xbK hpl)
  have hsz:m.sz=1:=g.sz.symm
  refine ⟨g.ver,g.sz,g.ty,g.capm,g.fits,fun y hy=>?_,g.low,g.lt,fun h0=>?_,g.guard⟩
  · simp only [List.mem_singleton] at hy
    subst hy
    rw [hsz];rfl
  · obtain ⟨c,c1,c2,c3⟩:=g.cells h0
    refine ⟨c,.of hnm (c1.plain hnm),c2,fun i j hi hj=>?_⟩
    have hi0:i=0:=by simpa using hi
    have hj0:j=0:=by omega
    subst hi0 hj0
    have:=c3 0 0 (by simp) hj
    rw [xaX hpl,xb2 hpl] at this
    rw [xaX hpl,xb2 (bx:=⟨0,1,t,[.osl (.b n2) 1 0 k],false,false⟩) hpl]
    exact hosl n2 v k _ m2 hm2 hm2'' hv this
 have hm3:∀ m,M (.b 3)=some m→m.ver=0:=fun m hm=>by
  obtain ⟨bx,g1,g2⟩:=hR.box _ m hm
  rw [←g2.ver]
  exact hz3 bx g1
 have hm4:∀ m,M (.b 4)=some m→m.ver=0:=fun m hm=>by
  obtain ⟨bx,g1,g2⟩:=hR.box _ m hm
  rw [←g2.ver]
  exact hz4 bx g1
 have hver3:∀ m,M' (.b 3)=some m→v3=m.ver:=fun m hm=>(hbox 3 _ m rfl hm).ver
 have hver4:∀ m,M' (.b 4)=some m→v4=m.ver:=fun m hm=>(hbox 4 _ m rfl hm).ver
 have hrow:∀ n i j m,M' (.r n i j)=some m→BoxAt w' A' M' w0.heap.size (.r n i j) m tombB∧n<5:=fun n i j m hm=>by
  obtain ⟨bx,g1,g2⟩:=h4.box _ m hm
  obtain ⟨b0,q1,_⟩:=xly g1
  have hn:n<5:=by
   have:=xep q1
   simpa using this
  have hp:isC b0.ty=false:=by
   match n,hn with
   | 0,_=>simp only [List.getElem?_cons_zero,Option.some.injEq] at q1;subst q1;exact p0
   | 1,_=>simp only [List.getElem?_cons_zero,List.getElem?_cons_succ,Option.some.injEq] at q1;subst q1;exact p1
   | 2,_=>simp only [List.getElem?_cons_zero,List.getElem?_cons_succ,Option.some.injEq] at q1;subst q1;exact p2
   | 3,_=>simp only [List.getElem?_cons_zero,List.getElem?_cons_succ,Option.some.injEq] at q1;subst q1;exact p3
   | 4,_=>simp only [List.getElem?_cons_zero,List.getElem?_cons_succ,Option.some.injEq] at q1;subst q1;exact p4
  rw [xdJ q1 hp] at g1
  simp only [Option.some.injEq] at g1
  subst g1
  exact ⟨g2,hn⟩
 have hR':HR w' A' M'' w0.heap.size [⟨0,1,t0,[x0],false,true⟩,⟨0,1,t1,[.osl (.b 3) 1 0 k3],false,false⟩,⟨0,1,t2,[.osl (.b 4) 1 0 k4],false,false⟩,⟨1,s3,t3,xs3,false,true⟩,⟨1,s4,t4,xs4,false,true⟩]:=by
  refine ⟨fun id m1 hm1=>?_,fun id id' m1 m2 k1 k2 c1 c2 he=>?_,h4.lt⟩
  · obtain ⟨m0,g1,g2,g3,g4,g5⟩:=hsrc id m1 hm1
    cases id with
    | r n i j =>
     rw [eo (.r n i j) (fun e=>by cases e) (fun e=>by cases e),g1] at hm1
     simp only [Option.some.injEq] at hm1
     subst hm1
     obtain ⟨q1,q2⟩:=hrow n i j _ g1
     refine ⟨tombB,?_,?_⟩
     · match n,q2 with
       | 0,_=>exact xdJ rfl p0
       | 1,_=>exact xdJ rfl p1
       | 2,_=>exact xdJ rfl p2
       | 3,_=>exact xdJ rfl p3
       | 4,_=>exact xdJ rfl p4
     · have hv:tombB.ver=m0.ver:=q1.ver
       have:=hpure (.r n i j) tombB m0 m0.ver rfl rfl q1
       exact ⟨q1.ver,this.sz,this.ty,this.capm,this.fits,this.ok,this.low,this.lt,this.cells,this.guard⟩
    | b n =>
     have hn:n<5:=by
      obtain ⟨bx,q1,_⟩:=h4.box _ m0 g1
      have:=xep q1
      simpa using this
     match n,hn with
     | 0,_ =>
      rw [eo (.b 0) (fun e=>by cases e) (fun e=>by cases e),g1] at hm1
      simp only [Option.some.injEq] at hm1
      subst hm1
      have q:=hbox 0 _ m0 rfl g1
      have:=hpure (.b 0) _ m0 m0.ver p0 rfl q
      exact ⟨⟨0,1,t0,[x0],false,true⟩,rfl,q.ver,this.sz,this.ty,this.capm,this.fits,this.ok,this.low,this.lt,this.cells,this.guard⟩
     | 1,_ =>
      rw [eo (.b 1) (fun e=>by cases e) (fun e=>by cases e),g1] at hm1
      simp only [Option.some.injEq] at hm1
      subst hm1
      have q:=hbox 1 _ m0 rfl g1
      have hc:0<m0.cap:=Nat.lt_of_lt_of_le Nat.zero_lt_one q.fits
      obtain ⟨c,c1,c2,c3⟩:=q.cells hc
      have hr:=c3 0 0 (by simp) (by rw [←q.sz];exact Nat.zero_lt_one)
      rw [xaX p1,xb2 (bx:=⟨0,1,t1,[.osl (.b 3) v3 0 k3],false,false⟩) p1] at hr
      have hr:Rel w' A' M' _ (.osl (.b 3) v3 0 k3):=hr
      obtain ⟨m3,a1,_⟩:=Rel.osl_inv hr
      exact ⟨_,rfl,hvar 1 3 v3 k3 t1 m0 m3 p1 (by decide) (by decide) q a1 (e3 m3 a1) (hver3 m3 a1)⟩
     | 2,_ =>
      rw [eo (.b 2) (fun e=>by cases e) (fun e=>by cases e),g1] at hm1
      simp only [Option.some.injEq] at hm1
      subst hm1
      have q:=hbox 2 _ m0 rfl g1
      have hc:0<m0.cap:=Nat.lt_of_lt_of_le Nat.zero_lt_one q.fits
      obtain ⟨c,c1,c2,c3⟩:=q.cells hc
      have hr:=c3 0 0 (by simp) (by rw [←q.sz];exact Nat.zero_lt_one)
      rw [xaX p2,xb2 (bx:=⟨0,1,t2,[.osl (.b 4) v4 0 k4],false,false⟩) p2] at hr
      have hr:Rel w' A' M' _ (.osl (.b 4) v4 0 k4):=hr
      obtain ⟨m4,a1,_⟩:=Rel.osl_inv hr
      exact ⟨_,rfl,hvar 2 4 v4 k4 t2 m0 m4 p2 (by decide) (by decide) q a1 (e4 m4 a1) (hver4 m4 a1)⟩
     | 3,_ =>
      rw [e3 m0 g1] at hm1
      simp only [Option.some.injEq] at hm1
      subst hm1
      exact ⟨_,rfl,hpure (.b 3) _ m0 1 p3 rfl (hbox 3 _ m0 rfl g1)⟩
     | 4,_ =>
      rw [e4 m0 g1] at hm1
      simp only [Option.some.injEq] at hm1
      subst hm1
      exact ⟨_,rfl,hpure (.b 4) _ m0 1 p4 rfl (hbox 4 _ m0 rfl g1)⟩
  · obtain ⟨n1,a1,a2,a3,_⟩:=hsrc id m1 k1
    obtain ⟨n2,b1,b2,b3,_⟩:=hsrc id' m2 k2
    exact h4.inj id id' n1 n2 a1 b1 (by omega) (by omega) (by rw [←a2,←b2,he])
 refine ⟨u,A',M'',rfl,h1,h2,⟨h3.size,h3.keep,h3.less,h3.more,fun id m hid hm=>?_,fun id m1 hm1 h0=>?_⟩,hR',?_⟩
 · obtain ⟨m',g1,g2⟩:=h3.ids id m hid hm
   by_cases q3:id=.b 3
   · subst q3
     exact ⟨_,e3 m' g1,.inr (by have:m.ver=0:=hm3 m hm;show m.ver<1;omega)⟩
   · by_cases q4:id=.b 4
     · subst q4
       exact ⟨_,e4 m' g1,.inr (by have:m.ver=0:=hm4 m hm;show m.ver<1;omega)⟩
     · exact ⟨m',by rw [eo id q3 q4];exact g1,g2⟩
 · obtain ⟨m0,g1,g2,g3,_⟩:=hsrc id m1 hm1
   rw [g2]
   exact h3.src id m0 g1 (by omega)
 · obtain ⟨vs',rfl,q1,_⟩:=h5.tuple_inv
   exact .tuple vs' [] q1 (by simp)
namespace M
open Go.Proofs
noncomputable def set2 (at0 n h:Int) (ns no:Nat) (sx ox:List AV):Option (Int×Nat×Nat×List AV×List AV):=(xlW at0 n h ns no sx ox).bind fun p =>
 br (Nat.beq p.2.1 p.2.2.2.2.2.2.1&&Nat.beq p.2.2.2.1 p.2.2.2.2.2.2.2.2) (some (p.1,p.2.2.1,p.2.2.2.2.1,p.2.2.2.2.2.1,p.2.2.2.2.2.2.2.1)) none
noncomputable def xA5:List AV→List Box→Option (Bool×AV×List Box):=omOf (sCons (sEq (pInt IntKind.i64)) (sCons (sEq (pInt IntKind.i64)) (sCons (sEq (pOwn 0 0 0 0)) (sCons (sEq (pOwn 1 0 0 0)) (sCons (sEq (pOwn 2 0 0 0)) sNil)))))
 (pCons (pBox 0 1 3 false true (pCons (pInt IntKind.i64) pNil)) (pCons (pBox 0 1 84 false false (pCons (pOsl 3 0 0) pNil)) (pCons (pBox 0 1 53 false false (pCons (pOsl 4 0 0) pNil)) (pCons (pBox 0 2 86 false true pAny) (pCons (pBox 0 2 31 false true pAny) pNil)))))
 fun (at0,(n,(_,(_,(_,_))))) ((h,_),((ns,_),((no,_),(sx,(ox,_)))))=>((set2 at0 n h ns no sx ox).isSome,(.tuple [],[⟨0,1,3,[.int .i64 ((set2 at0 n h ns no sx ox).getD (0,0,0,[],[])).1],false,true⟩,⟨0,1,84,[.osl (.b 3) 1 0 ((set2 at0 n h ns no sx ox).getD (0,0,0,[],[])).2.1],false,false⟩,⟨0,1,53,[.osl (.b 4) 1 0 ((set2 at0 n h ns no sx ox).getD (0,0,0,[],[])).2.2.1],false,false⟩,⟨1,2,86,((set2 at0 n h ns no sx ox).getD (0,0,0,[],[])).2.2.2.1,false,true⟩,⟨1,2,31,((set2 at0 n h ns no sx ox).getD (0,0,0,[],[])).2.2.2.2,false,true⟩]))
theorem xFs:OmOk Tryz.prog ITryz 68 xA5:=xhZ fun vv bb rr hh' hh=>by
 obtain ⟨at0,⟨n,⟨_,⟨_,⟨_,_⟩⟩⟩⟩⟩:=vv
 obtain ⟨⟨h,_⟩,⟨⟨ns,_⟩,⟨⟨no,_⟩,⟨sx,⟨ox,_⟩⟩⟩⟩⟩:=bb
 obtain ⟨hh1,hh2⟩:=Prod.mk.inj hh
 cases hs:xlW at0 n h ns no sx ox with
 | none=>rw [show set2 at0 n h ns no sx ox=none by unfold set2;rw [hs];rfl] at hh1;simp at hh1
 | some p =>
  have hs2:set2 at0 n h ns no sx ox=br (Nat.beq p.2.1 p.2.2.2.2.2.2.1&&Nat.beq p.2.2.2.1 p.2.2.2.2.2.2.2.2) (some (p.1,p.2.2.1,p.2.2.2.2.1,p.2.2.2.2.2.1,p.2.2.2.2.2.2.2.1)) none:=by unfold set2;rw [hs];rfl
  cases ht:Nat.beq p.2.1 p.2.2.2.2.2.2.1&&Nat.beq p.2.2.2.1 p.2.2.2.2.2.2.2.2 with
  | false=>rw [hs2,ht] at hh1;simp [br] at hh1
  | true =>
   rw [ht] at hs2
   have hs3:set2 at0 n h ns no sx ox=some (p.1,p.2.2.1,p.2.2.2.2.1,p.2.2.2.2.2.1,p.2.2.2.2.2.2.2.1):=hs2
   rw [hs3] at hh2
   simp only [Option.getD_some] at hh2
   simp only [Bool.and_eq_true] at ht
   have e1:=Nat.eq_of_beq_eq_true ht.1
   have e2:=Nat.eq_of_beq_eq_true ht.2
   have hx:=xw6 at0 n h ns no sx ox p hs
   have hg:GoodM Tryz.prog ITryz 68 _ _ _ _:=xfw (p:=xhM.pin) (xge mxTryz (inv0Ok Tryz.prog _) rfl xsz rfl Tryz.func68 rfl (by kernel_rfl) xqV hx)
   rw [←e1,←e2] at hg
   have hg2:=GoodM.aged rfl (fun bx hb=>by simp only [List.getElem?_cons_zero,List.getElem?_cons_succ,Option.some.injEq] at hb;subst hb;rfl) (fun bx hb=>by simp only [List.getElem?_cons_zero,List.getElem?_cons_succ,Option.some.injEq] at hb;subst hb;rfl) rfl rfl rfl rfl rfl hg
   obtain ⟨rfl,rfl⟩:=Prod.mk.inj hh2
   exact hg2
noncomputable def ESet:Env:=EKP1.withM 68 xA5
theorem xE4:OrcOk Tryz.prog ITryz ESet:=xrl.withM xFs
end M
end Go.Sim
end
noncomputable section
set_option maxRecDepth 100000
namespace Go.Sim.M
open Go.IntKind (i64 u64 u8)
open Go.RowKit Go.Proofs
abbrev xCo:Env:=ESet
theorem xBq:OrcOk Tryz.prog ITryz xCo:=xE4
abbrev xCr:Env:=xCo
theorem xBS:OrcOk Tryz.prog ITryz xCr:=xBq
abbrev EKP3:Env:=xCr
theorem xE2:OrcOk Tryz.prog ITryz EKP3:=xBS
end Go.Sim.M
end
noncomputable section
set_option maxRecDepth 100000
namespace Go.Sim.M
open Go.IntKind (i64 u64 u8)
open Go.RowKit Go.Proofs
abbrev xCh:Env:=EKP3
theorem xBd:OrcOk Tryz.prog ITryz xCh:=xE2
abbrev xCv:Env:=xCh
theorem xB2:OrcOk Tryz.prog ITryz xCv:=xBd
abbrev xBn:Env:=xCv
theorem xBT:OrcOk Tryz.prog ITryz xBn:=xB2
abbrev xBD:Env:=xBn
theorem xBN:OrcOk Tryz.prog ITryz xBD:=xBT
abbrev EKP4:Env:=xBD
theorem xER:OrcOk Tryz.prog ITryz EKP4:=xBN
end Go.Sim.M
end
noncomputable section
set_option maxRecDepth 100000
namespace Go.Sim.M
open Go.IntKind (i64 u64 u8)
open Go.RowKit Go.Proofs
abbrev xA9:Env:=EKP4
theorem xCH:OrcOk Tryz.prog ITryz xA9:=xER
abbrev xBQ:Env:=xA9
theorem xB5:OrcOk Tryz.prog ITryz xBQ:=xCH
abbrev xCj:Env:=xBQ
theorem xBg:OrcOk Tryz.prog ITryz xCj:=xB5
abbrev xAx:Env:=xCj
theorem xBk:OrcOk Tryz.prog ITryz xAx:=xBg
abbrev EKP5:Env:=xAx
theorem xrf:OrcOk Tryz.prog ITryz EKP5:=xBk
end Go.Sim.M
end
noncomputable section
set_option maxRecDepth 100000
namespace Go.Sim.M
open Go.IntKind (i64 u64 u8)
open Go.RowKit Go.Proofs
def xbl:Env:=EKP5.fn 53 1 (lsOf [40]) (lpsOf [])
theorem xiR:OrcOk Tryz.prog (ITryz.at 1) xbl:=xrf.fn
theorem xhF:LoOk Tryz.prog (ITryz.at xbl.pin) xbl (loopAt Tryz.f157 1):=xaF (by kernel_rfl)
def xc9 (a:Nat) (j:Int):=decide (0≤i64.wrap (j - 1))&&decide (i64.wrap (j - 1)<(↑a:Int))
def xaO (j:Int):Nat:=0+(i64.wrap (j - 1)).toNat
def xdh (a:Nat) (j:Int):=decide (0≤j)&&decide (j<(↑a:Int))
def xe0 (j:Int) (a:LA):=decide (0+j.toNat<a.length)
def xeW (j:Int) (a:LA):=decide (xaO j<a.length)&&hasSh1 (Sh.list 3) ((a.getD (xaO j) .top).cells.getD 0 .top)
def xfb (j:Int) (a:LA):=xe0 j a&&hasSh1 (Sh.list 3) ((a.getD (0+j.toNat) .top).cells.getD 0 .top)
def xdl {T:Type} (d:Nat) (a b i j:Int) (c:LA) (δ:T) (κl:(Int×LA)→T) (κr:(LA)→T):T:=br (decide (j>a)) (br (xdh d j) (br (xfb j c) (br (xc9 d j) (br (xeW j c) (br ((xbL ((c.getD (0+j.toNat) .top).cells.getD 0 .top).toList ((c.getD (xaO j) .top).cells.getD 0 .top).toList).isSome) (br (decide ((xbL ((c.getD (0+j.toNat) .top).cells.getD 0 .top).toList ((c.getD (xaO j) .top).cells.getD 0 .top).toList).getD 0<0)) (br (xc9 d j) (br (xeW j c) (br (xdh d j) (br (xfb j c) (br (xdh d j) (br (xe0 j c) (br (xc9 d j) (br (decide (xaO j<(c.set (0+j.toNat) (AV.list 3 ((c.getD (xaO j) .top).cells.getD 0 .top).toList)).length)) (κl (i64.wrap (j - 1),(c.set (0+j.toNat) (AV.list 3 ((c.getD (xaO j) .top).cells.getD 0 .top).toList)).set (xaO j) (AV.list 3 ((c.getD (0+j.toNat) .top).cells.getD 0 .top).toList))) δ) δ) δ) δ) δ) δ) δ) δ) (κr (c))) δ) δ) δ) δ) δ) (κr (c))
def xaR (d:Nat) (a b i:Int):(Int×LA)→Option ((Int×LA)⊕(LA)):=fun (j,c)=>xdl d a b i j c none (fun s=>some (.inl s)) (fun p=>some (.inr p))
def xbf (d:Nat) (a b i:Int):(Int×LA)→LA×List Box:=fun (j,c)=>([AV.osl 0 0 0 d,AV.int .i64 a,AV.int .i64 b,AV.func 88 [],AV.int .i64 i,AV.int .i64 j],[⟨0,1,40,c,false,true⟩])
def xa6 (c:Nat) (a b i:Int):(LA)→LR:=fun p=>(.leaf (.exit 2) [AV.osl 0 0 0 c,AV.int .i64 a,AV.int .i64 b,AV.func 88 [],AV.int .i64 i] [⟨0,1,40,p,false,true⟩])
abbrev xi5 (a:LA) (H:List Box):=XR Tryz.prog xbl [0,1,2,3,8,9] [0,1,2,3,8] [] (loopAt Tryz.f157 1) a H
theorem xi7 (c:Nat) (a b i:Int) (s:Int×LA):Enc (encR (xbf c a b i) (xa6 c a b i)) (xaR c a b i s) (xi5 (xbf c a b i s).1 (xbf c a b i s).2):=by
 obtain ⟨j,d⟩:=s
 refine eV (xdl c a b i j d none (fun s=>some (encR (xbf c a b i) (xa6 c a b i) (.inl s))) (fun p=>some (encR (xbf c a b i) (xa6 c a b i) (.inr p)))) (by kernel_rfl) ?_;unfold xaR xdl;repeat' first|exact eN|exact eS rfl|apply eB
def xdc:Lp:=lpOf [0,1,2,3,8,9] [0,1,2,3,8] [] (pCons (pOsl 0 0 0) (pCons (pInt .i64) (pCons (pInt .i64) (pCons (pFunc 88 pNil) (pCons (pInt .i64) (pCons (pInt .i64) pNil)))))) (pCons (pBox 0 1 40 false true pAny) pNil) fun (c,(a,(b,(_,(i,(j,_)))))) (d,_)=>((Iter (xaR c a b i) (j,d)).isSome,xa6 c a b i ((Iter (xaR c a b i) (j,d)).getD []))
theorem xeS:LoopOk Tryz.prog (ITryz.at xbl.pin) xbl.nt (loopAt Tryz.f157 1) xdc:=xbr fun f g k h=>by
 obtain ⟨c,⟨a,⟨b,⟨_,⟨i,⟨j,_⟩⟩⟩⟩⟩⟩:=f
 obtain ⟨d,_⟩:=g
 obtain ⟨e,rfl⟩:=Prod.mk.inj h
 exact xaH mxTryz (inv0Ok Tryz.prog _) rfl xiR xhF (xbf c a b i) (xa6 c a b i) (fun p=>by simp only [xa6,LR.eval];first|(simp;done)|(repeat' split<;>simp)) (xi7 c a b i) (s:=(j,d)) (xah e)
def xbn:Env:=EKP5.fn 53 1 (lsOf [40]) (lpsOf [(4,xdc)])
theorem xiV:OrcOk Tryz.prog (ITryz.at 1) xbn:=xrf.fn
theorem xhy:LoOk Tryz.prog (ITryz.at xbn.pin) xbn (loopAt Tryz.f157 0):=xbd (ls:=[loopAt Tryz.f157 1]) (by kernel_rfl) (lkC xeS lkN)
def xdm {T:Type} (d:Nat) (a b i:Int) (c:LA) (δ:T) (κl:(Int×LA)→T) (κr:(LA)→T):T:=br (decide (i<b)) (br ((Iter (xaR d a b i) (i,c)).isSome) (κl (i64.wrap (i+1),(Iter (xaR d a b i) (i,c)).getD [])) δ) (κr (c))
def xaS (d:Nat) (a b:Int):(Int×LA)→Option ((Int×LA)⊕(LA)):=fun (i,c)=>xdm d a b i c none (fun s=>some (.inl s)) (fun p=>some (.inr p))
def xbg (d:Nat) (a b:Int):(Int×LA)→LA×List Box:=fun (i,c)=>([AV.osl 0 0 0 d,AV.int .i64 a,AV.int .i64 b,AV.func 88 [],AV.int .i64 i],[⟨0,1,40,c,false,true⟩])
def xa5 (c:Nat) (a b:Int):(LA)→LR:=fun p=>(.leaf (.exit 0) [] [⟨0,1,40,p,false,true⟩])
abbrev xiY (a:LA) (H:List Box):=XR Tryz.prog xbn [0,1,2,3,8] [] [] (loopAt Tryz.f157 0) a H
theorem xi4 (c:Nat) (a b:Int) (s:Int×LA):Enc (encR (xbg c a b) (xa5 c a b)) (xaS c a b s) (xiY (xbg c a b s).1 (xbg c a b s).2):=by
 obtain ⟨i,d⟩:=s
 refine eV (xdm c a b i d none (fun s=>some (encR (xbg c a b) (xa5 c a b) (.inl s))) (fun p=>some (encR (xbg c a b) (xa5 c a b) (.inr p)))) (by kernel_rfl) ?_;unfold xaS xdm;repeat' first|exact eN|exact eS rfl|apply eB
def xeU:Lp:=lpOf [0,1,2,3,8] [] [] (pCons (pOsl 0 0 0) (pCons (pInt .i64) (pCons (pInt .i64) (pCons (pFunc 88 pNil) (pCons (pInt .i64) pNil))))) (pCons (pBox 0 1 40 false true pAny) pNil) fun (c,(a,(b,(_,(i,_))))) (d,_)=>((Iter (xaS c a b) (i,d)).isSome,xa5 c a b ((Iter (xaS c a b) (i,d)).getD []))
theorem xiy:LoopOk Tryz.prog (ITryz.at xbn.pin) xbn.nt (loopAt Tryz.f157 0) xeU:=xbr fun f g j h=>by
 obtain ⟨c,⟨a,⟨b,⟨_,⟨i,_⟩⟩⟩⟩⟩:=f
 obtain ⟨d,_⟩:=g
 obtain ⟨e,rfl⟩:=Prod.mk.inj h
 exact xaH mxTryz (inv0Ok Tryz.prog _) rfl xiV xhy (xbg c a b) (xa5 c a b) (fun p=>by simp only [xa5,LR.eval];first|(simp;done)|(repeat' split<;>simp)) (xi4 c a b) (s:=(i,d)) (xah e)
def xb3:Env:=EKP5.fn 53 1 (lsOf [40]) (lpsOf [(4,xdc),(1,xeU)])
theorem xiW:OrcOk Tryz.prog (ITryz.at 1) xb3:=xrf.fn
theorem xh7:LoOk Tryz.prog (ITryz.at xb3.pin) xb3 (Tryz.f157.body.getD .skip):=xbd (ls:=[loopAt Tryz.f157 0,loopAt Tryz.f157 1]) (by kernel_rfl) (lkC xiy (lkC xeS lkN))
def xcJ {T:Type} (n:Nat) (a b:Int) (c:LA) (δ:T) (κ:LA→T):T:=br ((Iter (xaS n a b) (i64.wrap (a+1),c)).isSome) (κ ((Iter (xaS n a b) (i64.wrap (a+1),c)).getD [])) δ
def xaN (n:Nat) (a b:Int) (c:LA):Option (LA):=xcJ n a b c none some
theorem xjS (n:Nat) (a b:Int) (xs:LA):Enc (fun (p:LA)=>(((AV.tuple [],([⟨0,1,40,p,false,true⟩]:List Box))):(AV×List Box))) (xaN n a b xs) (XFM Tryz.prog xb3 Tryz.f157 (Tryz.f157.body.getD .skip) [AV.osl (0:Id) 0 0 n,AV.int .i64 a,AV.int .i64 b,AV.func (88:FuncId) []] [{ ver:=0,sz:=1,ty:=(40:TypeId),xs:=xs,frz:=false,pm:=true }]):=by
 refine eV (xcJ n a b xs none (fun (p:LA)=>some (((AV.tuple [],([⟨0,1,40,p,false,true⟩]:List Box))):(AV×List Box)))) (by kernel_rfl) ?_;unfold xaN xcJ;repeat' first|exact eN|exact eS rfl|apply eB
def xfV:LA→List Box→Option (Bool×AV×List Box):=omOf (sCons (sEq (pOsl 0 0 0)) (sCons (sEq (pInt .i64)) (sCons (sEq (pInt .i64)) (sCons (sEq (pFunc (88:FuncId) pNil)) sNil)))) (pCons (pBox 0 1 (40:TypeId) false true pAny) pNil) fun (n,(a,(b,(_,_)))) (c,_)=>((xaN n a b c).isSome,((AV.tuple [],([⟨0,1,40,((xaN n a b c).getD []),false,true⟩]:List Box))))
theorem xjU:OmOk Tryz.prog ITryz 157 (xfV):=xhZ fun f g j i h=>by
 obtain ⟨n,⟨a,⟨b,⟨_,_⟩⟩⟩⟩:=f
 obtain ⟨k,_⟩:=g
 obtain ⟨c,e⟩:=Prod.mk.inj h
 refine xfw (p:=xb3.pin) (xge mxTryz (inv0Ok Tryz.prog _) rfl xiW rfl Tryz.func157 rfl (by kernel_rfl) xh7 ((xjS _ _ _ _ _ (xah (d:=[]) c)).trans ?_))
 exact congrArg some e
def xwq:Env:=EKP5.withM 157 xfV
theorem xs1:OrcOk Tryz.prog ITryz xwq:=xrf.withM xjU
def xb1:Env:=xwq.fn 38 1 (lsOf [40]) (lpsOf [])
theorem xjR:OrcOk Tryz.prog (ITryz.at 1) xb1:=xs1.fn
theorem xie:LoOk Tryz.prog (ITryz.at xb1.pin) xb1 (loopAt Tryz.f187 0):=xaF (by kernel_rfl)
def xfT (a i:Int) (b:LA):=decide (0+(i64.wrap (a+i)).toNat<b.length)
def xfS (a:Nat) (b i:Int):=decide (0≤i64.wrap (b+i))&&decide (i64.wrap (b+i)<(↑a:Int))
def xfU (b:Nat) (a i:Int):=decide (0≤i64.wrap (a+i))&&decide (i64.wrap (a+i)<(↑b:Int))
def xcg (b i:Int):Nat:=0+(i64.wrap (b+i)).toNat
def xfW (a b i:Int) (c:LA):=c.set (0+(i64.wrap (a+i)).toNat) (AV.list 3 ((c.getD (xcg b i) .top).cells.getD 0 .top).toList)
def xdZ {T:Type} (d:Nat) (a b n i:Int) (c:LA) (δ:T) (κl:(Int×LA)→T) (κr:(LA)→T):T:=br (decide (i<n)) (br (xfS d b i) (br (decide (xcg b i<c.length)&&hasSh1 (Sh.list 3) ((c.getD (xcg b i) .top).cells.getD 0 .top)) (br (xfU d a i) (br (xfT a i c&&hasSh1 (Sh.list 3) ((c.getD (0+(i64.wrap (a+i)).toNat) .top).cells.getD 0 .top)) (br (xfU d a i) (br (xfT a i c) (br (xfS d b i) (br (decide (xcg b i<(xfW a b i c).length)) (κl (i64.wrap (i+1),(xfW a b i c).set (xcg b i) (AV.list 3 ((c.getD (0+(i64.wrap (a+i)).toNat) .top).cells.getD 0 .top).toList))) δ) δ) δ) δ) δ) δ) δ) δ) (κr (c))
def xa2 (d:Nat) (a b n:Int):(Int×LA)→Option ((Int×LA)⊕(LA)):=fun (i,c)=>xdZ d a b n i c none (fun s=>some (.inl s)) (fun p=>some (.inr p))
def xbH (d:Nat) (a b n:Int):(Int×LA)→LA×List Box:=fun (i,c)=>([AV.osl 0 0 0 d,AV.int .i64 a,AV.int .i64 b,AV.int .i64 n,AV.int .i64 i],[⟨0,1,40,c,false,true⟩])
def xbp (c:Nat) (a b n:Int):(LA)→LR:=fun p=>(.leaf (.exit 0) [] [⟨0,1,40,p,false,true⟩])
abbrev xkc (a:LA) (H:List Box):=XR Tryz.prog xb1 [0,1,2,3,10] [] [] (loopAt Tryz.f187 0) a H
theorem xkf (c:Nat) (a b n:Int) (s:Int×LA):Enc (encR (xbH c a b n) (xbp c a b n)) (xa2 c a b n s) (xkc (xbH c a b n s).1 (xbH c a b n s).2):=by
 obtain ⟨i,d⟩:=s
 refine eV (xdZ c a b n i d none (fun s=>some (encR (xbH c a b n) (xbp c a b n) (.inl s))) (fun p=>some (encR (xbH c a b n) (xbp c a b n) (.inr p)))) (by kernel_rfl) ?_;unfold xa2 xdZ;repeat' first|exact eN|exact eS rfl|apply eB
def xfX:Lp:=lpOf [0,1,2,3,10] [] [] (pCons (pOsl 0 0 0) (pCons (pInt .i64) (pCons (pInt .i64) (pCons (pInt .i64) (pCons (pInt .i64) pNil))))) (pCons (pBox 0 1 40 false true pAny) pNil) fun (c,(a,(b,(n,(i,_))))) (d,_)=>((Iter (xa2 c a b n) (i,d)).isSome,xbp c a b n ((Iter (xa2 c a b n) (i,d)).getD []))
theorem xjF:LoopOk Tryz.prog (ITryz.at xb1.pin) xb1.nt (loopAt Tryz.f187 0) xfX:=xbr fun f g j h=>by
 obtain ⟨c,⟨a,⟨b,⟨n,⟨i,_⟩⟩⟩⟩⟩:=f
 obtain ⟨d,_⟩:=g
 obtain ⟨e,rfl⟩:=Prod.mk.inj h
 exact xaH mxTryz (inv0Ok Tryz.prog _) rfl xjR xie (xbH c a b n) (xbp c a b n) (fun p=>by simp only [xbp,LR.eval];first|(simp;done)|(repeat' split<;>simp)) (xkf c a b n) (s:=(i,d)) (xah e)
def xcv:Env:=xwq.fn 38 1 (lsOf [40]) (lpsOf [(1,xfX)])
theorem xjQ:OrcOk Tryz.prog (ITryz.at 1) xcv:=xs1.fn
theorem xi2:LoOk Tryz.prog (ITryz.at xcv.pin) xcv (Tryz.f187.body.getD .skip):=xbd (ls:=[loopAt Tryz.f187 0]) (by kernel_rfl) (lkC xjF lkN)
def xdp {T:Type} (n:Nat) (a b k:Int) (c:LA) (δ:T) (κ:LA→T):T:=br ((Iter (xa2 n a b k) (0,c)).isSome) (κ ((Iter (xa2 n a b k) (0,c)).getD [])) δ
def xaM (n:Nat) (a b k:Int) (c:LA):Option (LA):=xdp n a b k c none some
theorem xln (n:Nat) (a b k:Int) (xs:LA):Enc (fun (p:LA)=>(((AV.tuple [],([⟨0,1,40,p,false,true⟩]:List Box))):(AV×List Box))) (xaM n a b k xs) (XFM Tryz.prog xcv Tryz.f187 (Tryz.f187.body.getD .skip) [AV.osl (0:Id) 0 0 n,AV.int .i64 a,AV.int .i64 b,AV.int .i64 k,AV.func (88:FuncId) []] [{ ver:=0,sz:=1,ty:=(40:TypeId),xs:=xs,frz:=false,pm:=true }]):=by
 refine eV (xdp n a b k xs none (fun (p:LA)=>some (((AV.tuple [],([⟨0,1,40,p,false,true⟩]:List Box))):(AV×List Box)))) (by kernel_rfl) ?_;unfold xaM xdp;repeat' first|exact eN|exact eS rfl|apply eB
def xht:LA→List Box→Option (Bool×AV×List Box):=omOf (sCons (sEq (pOsl 0 0 0)) (sCons (sEq (pInt .i64)) (sCons (sEq (pInt .i64)) (sCons (sEq (pInt .i64)) (sCons (sEq (pFunc (88:FuncId) pNil)) sNil))))) (pCons (pBox 0 1 (40:TypeId) false true pAny) pNil) fun (n,(a,(b,(k,(_,_))))) (c,_)=>((xaM n a b k c).isSome,((AV.tuple [],([⟨0,1,40,((xaM n a b k c).getD []),false,true⟩]:List Box))))
theorem xlA:OmOk Tryz.prog ITryz 187 (xht):=xhZ fun f g j i h=>by
 obtain ⟨n,⟨a,⟨b,⟨k,⟨_,_⟩⟩⟩⟩⟩:=f
 obtain ⟨l,_⟩:=g
 obtain ⟨c,e⟩:=Prod.mk.inj h
 refine xfw (p:=xcv.pin) (xge mxTryz (inv0Ok Tryz.prog _) rfl xjQ rfl Tryz.func187 rfl (by kernel_rfl) xi2 ((xln _ _ _ _ _ _ (xah (d:=[]) c)).trans ?_))
 exact congrArg some e
def xwu:Env:=xwq.withM 187 xht
theorem xsv:OrcOk Tryz.prog ITryz xwu:=xs1.withM xlA
def xcp:Env:=xwu.fn 58 1 (lsOf [40]) (lpsOf [])
theorem xkU:OrcOk Tryz.prog (ITryz.at 1) xcp:=xsv.fn
theorem xjd:LoOk Tryz.prog (ITryz.at xcp.pin) xcp (loopAt Tryz.f176 0):=xaF (by kernel_rfl)
def xeT {T:Type} (b:Nat) (m i j:Int) (a:LA) (δ:T) (κl:(Int×Int×LA)→T) (κr:(Int×LA)→T):T:=br (i != j) (br (decide (i>j)) (br ((xaM b (i64.wrap (m - i)) m j a).isSome) (κl (i64.wrap (i - j),j,(xaM b (i64.wrap (m - i)) m j a).getD [])) δ) (br ((xaM b (i64.wrap (m - i)) (i64.wrap (i64.wrap (m+j) - i)) i a).isSome) (κl (i,i64.wrap (j - i),(xaM b (i64.wrap (m - i)) (i64.wrap (i64.wrap (m+j) - i)) i a).getD [])) δ)) (κr (i,a))
def xbF (b:Nat) (m:Int):(Int×Int×LA)→Option ((Int×Int×LA)⊕(Int×LA)):=fun (i,j,a)=>xeT b m i j a none (fun s=>some (.inl s)) (fun p=>some (.inr p))
def xb6 (b:Nat) (m:Int):(Int×Int×LA)→LA×List Box:=fun (i,j,a)=>([AV.osl 0 0 0 b,AV.int .i64 m,AV.func 88 [],AV.int .i64 i,AV.int .i64 j],[⟨0,1,40,a,false,true⟩])
def xbU (a:Nat) (m:Int):(Int×LA)→LR:=fun p=>(.leaf (.exit 0) [AV.osl 0 0 0 a,AV.int .i64 m,AV.func 88 [],AV.int .i64 p.1] [⟨0,1,40,p.2,false,true⟩])
abbrev xlb (a:LA) (H:List Box):=XR Tryz.prog xcp [0,2,4,10,11] [0,2,4,10] [] (loopAt Tryz.f176 0) a H
theorem xlq (a:Nat) (m:Int) (s:Int×Int×LA):Enc (encR (xb6 a m) (xbU a m)) (xbF a m s) (xlb (xb6 a m s).1 (xb6 a m s).2):=by
 obtain ⟨i,j,b⟩:=s
 refine eV (xeT a m i j b none (fun s=>some (encR (xb6 a m) (xbU a m) (.inl s))) (fun p=>some (encR (xb6 a m) (xbU a m) (.inr p)))) (by kernel_rfl) ?_;unfold xbF xeT;repeat' first|exact eN|exact eS rfl|apply eB
def xhj:Lp:=lpOf [0,2,4,10,11] [0,2,4,10] [] (pCons (pOsl 0 0 0) (pCons (pInt .i64) (pCons (pFunc 88 pNil) (pCons (pInt .i64) (pCons (pInt .i64) pNil))))) (pCons (pBox 0 1 40 false true pAny) pNil) fun (a,(m,(_,(i,(j,_))))) (b,_)=>((Iter (xbF a m) (i,j,b)).isSome,xbU a m ((Iter (xbF a m) (i,j,b)).getD (0,[])))
theorem xkH:LoopOk Tryz.prog (ITryz.at xcp.pin) xcp.nt (loopAt Tryz.f176 0) xhj:=xbr fun d e g f=>by
 obtain ⟨a,⟨m,⟨_,⟨i,⟨j,_⟩⟩⟩⟩⟩:=d
 obtain ⟨b,_⟩:=e
 obtain ⟨c,rfl⟩:=Prod.mk.inj f
 exact xaH mxTryz (inv0Ok Tryz.prog _) rfl xkU xjd (xb6 a m) (xbU a m) (fun p=>by simp only [xbU,LR.eval];first|(simp;done)|(repeat' split<;>simp)) (xlq a m) (s:=(i,j,b)) (xah c)
def xcT:Env:=xwu.fn 58 1 (lsOf [40]) (lpsOf [(2,xhj)])
theorem xkR:OrcOk Tryz.prog (ITryz.at 1) xcT:=xsv.fn
theorem xjO:LoOk Tryz.prog (ITryz.at xcT.pin) xcT (Tryz.f176.body.getD .skip):=xbd (ls:=[loopAt Tryz.f176 0]) (by kernel_rfl) (lkC xkH lkN)
def xfr (n:Nat) (a m b:Int) (c:LA):=Iter (xbF n m) (i64.wrap (m - a),i64.wrap (b - m),c)
def xfs (n:Nat) (a m b:Int) (c:LA):=(xfr n a m b c).getD (0,[])
def xfl (n:Nat) (a m b:Int) (c:LA):=(xfs n a m b c).fst
def xfp (n:Nat) (a m b:Int) (c:LA):=xaM n (i64.wrap (m - xfl n a m b c)) m (xfl n a m b c) (xfs n a m b c).snd
def xdV {T:Type} (n:Nat) (a m b:Int) (c:LA) (δ:T) (κ:LA→T):T:=br ((xfr n a m b c).isSome) (br ((xfp n a m b c).isSome) (κ ((xfp n a m b c).getD [])) δ) δ
def xa1 (n:Nat) (a m b:Int) (c:LA):Option (LA):=xdV n a m b c none some
theorem xmy (n:Nat) (a m b:Int) (xs:LA):Enc (fun (p:LA)=>(((AV.tuple [],([⟨0,1,40,p,false,true⟩]:List Box))):(AV×List Box))) (xa1 n a m b xs) (XFM Tryz.prog xcT Tryz.f176 (Tryz.f176.body.getD .skip) [AV.osl (0:Id) 0 0 n,AV.int .i64 a,AV.int .i64 m,AV.int .i64 b,AV.func (88:FuncId) []] [{ ver:=0,sz:=1,ty:=(40:TypeId),xs:=xs,frz:=false,pm:=true }]):=by
 refine eV (xdV n a m b xs none (fun (p:LA)=>some (((AV.tuple [],([⟨0,1,40,p,false,true⟩]:List Box))):(AV×List Box)))) (by kernel_rfl) ?_;unfold xa1 xdV;repeat' first|exact eN|exact eS rfl|apply eB
def xiA:LA→List Box→Option (Bool×AV×List Box):=omOf (sCons (sEq (pOsl 0 0 0)) (sCons (sEq (pInt .i64)) (sCons (sEq (pInt .i64)) (sCons (sEq (pInt .i64)) (sCons (sEq (pFunc (88:FuncId) pNil)) sNil))))) (pCons (pBox 0 1 (40:TypeId) false true pAny) pNil) fun (n,(a,(m,(b,(_,_))))) (c,_)=>((xa1 n a m b c).isSome,((AV.tuple [],([⟨0,1,40,((xa1 n a m b c).getD []),false,true⟩]:List Box))))
theorem xmI:OmOk Tryz.prog ITryz 176 (xiA):=xhZ fun f g j i h=>by
 obtain ⟨n,⟨a,⟨m,⟨b,⟨_,_⟩⟩⟩⟩⟩:=f
 obtain ⟨k,_⟩:=g
 obtain ⟨c,e⟩:=Prod.mk.inj h
 refine xfw (p:=xcT.pin) (xge mxTryz (inv0Ok Tryz.prog _) rfl xkR rfl Tryz.func176 rfl (by kernel_rfl) xjO ((xmy _ _ _ _ _ _ (xah (d:=[]) c)).trans ?_))
 exact congrArg some e
def xnk:Env:=xwu.withM 176 xiA
theorem xjC:OrcOk Tryz.prog ITryz xnk:=xsv.withM xmI
def xb8:Env:=xnk.fn 220 1 (lsOf [40]) (lpsOf [])
theorem xkk:OrcOk Tryz.prog (ITryz.at 1) xb8:=xjC.fn
theorem xiN:LoOk Tryz.prog (ITryz.at xb8.pin) xb8 (loopAt Tryz.f158 0):=xaF (by kernel_rfl)
def xba (i j:Int):=i64.wrap ((u64.wrap (i64.wrap (i+j))).fdiv 2)
def xgq (a i j:Int) (b:LA):=xbL ((b.getD (0+(xba i j).toNat) .top).cells.getD 0 .top).toList ((b.getD (0+a.toNat) .top).cells.getD 0 .top).toList
def xem {T:Type} (c:Nat) (a i j:Int) (b:LA) (δ:T) (κl:(Int×Int×LA)→T) (κr:(Int×LA)→T):T:=br (decide (i<j)) (br (decide (0≤xba i j)&&decide (xba i j<(↑c:Int))) (br (decide (0+(xba i j).toNat<b.length)&&hasSh1 (Sh.list 3) ((b.getD (0+(xba i j).toNat) .top).cells.getD 0 .top)) (br (decide (0≤a)&&decide (a<(↑c:Int))) (br (decide (0+a.toNat<b.length)&&hasSh1 (Sh.list 3) ((b.getD (0+a.toNat) .top).cells.getD 0 .top)) (br ((xgq a i j b).isSome) (br (decide ((xgq a i j b).getD 0<0)) (κl (i64.wrap (xba i j+1),j,b)) (κl (i,xba i j,b))) δ) δ) δ) δ) δ) (κr (i,b))
def xaT (c:Nat) (a:Int):(Int×Int×LA)→Option ((Int×Int×LA)⊕(Int×LA)):=fun (i,j,b)=>xem c a i j b none (fun s=>some (.inl s)) (fun p=>some (.inr p))
def xbP (c:Nat) (a:Int):(Int×Int×LA)→LA×List Box:=fun (i,j,b)=>([AV.osl 0 0 0 c,AV.int .i64 a,AV.func 88 [],AV.int .i64 i,AV.int .i64 j],[⟨0,1,40,b,false,true⟩])
def xby (b:Nat) (a:Int):(Int×LA)→LR:=fun p=>(.leaf (.exit 0) [AV.osl 0 0 0 b,AV.int .i64 a,AV.int .i64 p.1] [⟨0,1,40,p.2,false,true⟩])
abbrev xkE (a:LA) (H:List Box):=XR Tryz.prog xb8 [0,1,4,10,11] [0,1,10] [] (loopAt Tryz.f158 0) a H
theorem xkI (b:Nat) (a:Int) (s:Int×Int×LA):Enc (encR (xbP b a) (xby b a)) (xaT b a s) (xkE (xbP b a s).1 (xbP b a s).2):=by
 obtain ⟨i,j,c⟩:=s
 refine eV (xem b a i j c none (fun s=>some (encR (xbP b a) (xby b a) (.inl s))) (fun p=>some (encR (xbP b a) (xby b a) (.inr p)))) (by kernel_rfl) ?_;unfold xaT xem;repeat' first|exact eN|exact eS rfl|apply eB
def xbb:Lp:=lpOf [0,1,4,10,11] [0,1,10] [] (pCons (pOsl 0 0 0) (pCons (pInt .i64) (pCons (pFunc 88 pNil) (pCons (pInt .i64) (pCons (pInt .i64) pNil))))) (pCons (pBox 0 1 40 false true pAny) pNil) fun (b,(a,(_,(i,(j,_))))) (c,_)=>((Iter (xaT b a) (i,j,c)).isSome,xby b a ((Iter (xaT b a) (i,j,c)).getD (0,[])))
theorem xjW:LoopOk Tryz.prog (ITryz.at xb8.pin) xb8.nt (loopAt Tryz.f158 0) xbb:=xbr fun e f h g=>by
 obtain ⟨b,⟨a,⟨_,⟨i,⟨j,_⟩⟩⟩⟩⟩:=e
 obtain ⟨c,_⟩:=f
 obtain ⟨d,rfl⟩:=Prod.mk.inj g
 exact xaH mxTryz (inv0Ok Tryz.prog _) rfl xkk xiN (xbP b a) (xby b a) (fun p=>by simp only [xby,LR.eval];first|(simp;done)|(repeat' split<;>simp)) (xkI b a) (s:=(i,j,c)) (xah d)
def xb7:Env:=xnk.fn 220 1 (lsOf [40]) (lpsOf [(3,xbb)])
theorem xkm:OrcOk Tryz.prog (ITryz.at 1) xb7:=xjC.fn
theorem xiJ:LoOk Tryz.prog (ITryz.at xb7.pin) xb7 (loopAt Tryz.f158 1):=xaF (by kernel_rfl)
def xgr (a:Nat) (k:Int):=decide (0≤i64.wrap (k+1))&&decide (i64.wrap (k+1)<(↑a:Int))
def xbG (k:Int):Nat:=0+(i64.wrap (k+1)).toNat
def xgD (k:Int) (a:LA):=decide (0+k.toNat<a.length)
def xel {T:Type} (b:Nat) (i k:Int) (a:LA) (δ:T) (κl:(Int×LA)→T) (κr:(LA)→T):T:=br (decide (k<i64.wrap (i - 1))) (br (xgr b k) (br (decide (xbG k<a.length)&&hasSh1 (Sh.list 3) ((a.getD (xbG k) .top).cells.getD 0 .top)) (br (decide (0≤k)&&decide (k<(↑b:Int))) (br (xgD k a&&hasSh1 (Sh.list 3) ((a.getD (0+k.toNat) .top).cells.getD 0 .top)) (br (decide (0≤k)&&decide (k<(↑b:Int))) (br (xgD k a) (br (xgr b k) (br (decide (xbG k<(a.set (0+k.toNat) (AV.list 3 ((a.getD (xbG k) .top).cells.getD 0 .top).toList)).length)) (κl (i64.wrap (k+1),(a.set (0+k.toNat) (AV.list 3 ((a.getD (xbG k) .top).cells.getD 0 .top).toList)).set (xbG k) (AV.list 3 ((a.getD (0+k.toNat) .top).cells.getD 0 .top).toList))) δ) δ) δ) δ) δ) δ) δ) δ) (κr (a))
def xbq (b:Nat) (i:Int):(Int×LA)→Option ((Int×LA)⊕(LA)):=fun (k,a)=>xel b i k a none (fun s=>some (.inl s)) (fun p=>some (.inr p))
def xbO (b:Nat) (i:Int):(Int×LA)→LA×List Box:=fun (k,a)=>([AV.osl 0 0 0 b,AV.int .i64 i,AV.int .i64 k],[⟨0,1,40,a,false,true⟩])
def xbw (a:Nat) (i:Int):(LA)→LR:=fun p=>(.leaf (.exit 2) [] [⟨0,1,40,p,false,true⟩])
abbrev xkD (a:LA) (H:List Box):=XR Tryz.prog xb7 [0,10,13] [] [] (loopAt Tryz.f158 1) a H
theorem xkJ (a:Nat) (i:Int) (s:Int×LA):Enc (encR (xbO a i) (xbw a i)) (xbq a i s) (xkD (xbO a i s).1 (xbO a i s).2):=by
 obtain ⟨k,b⟩:=s
 refine eV (xel a i k b none (fun s=>some (encR (xbO a i) (xbw a i) (.inl s))) (fun p=>some (encR (xbO a i) (xbw a i) (.inr p)))) (by kernel_rfl) ?_;unfold xbq xel;repeat' first|exact eN|exact eS rfl|apply eB
def xbJ:Lp:=lpOf [0,10,13] [] [] (pCons (pOsl 0 0 0) (pCons (pInt .i64) (pCons (pInt .i64) pNil))) (pCons (pBox 0 1 40 false true pAny) pNil) fun (a,(i,(k,_))) (b,_)=>((Iter (xbq a i) (k,b)).isSome,xbw a i ((Iter (xbq a i) (k,b)).getD []))
theorem xjT:LoopOk Tryz.prog (ITryz.at xb7.pin) xb7.nt (loopAt Tryz.f158 1) xbJ:=xbr fun d e g f=>by
 obtain ⟨a,⟨i,⟨k,_⟩⟩⟩:=d
 obtain ⟨b,_⟩:=e
 obtain ⟨c,rfl⟩:=Prod.mk.inj f
 exact xaH mxTryz (inv0Ok Tryz.prog _) rfl xkm xiJ (xbO a i) (xbw a i) (fun p=>by simp only [xbw,LR.eval];first|(simp;done)|(repeat' split<;>simp)) (xkJ a i) (s:=(k,b)) (xah c)
def xb5:Env:=xnk.fn 220 1 (lsOf [40]) (lpsOf [(3,xbb),(9,xbJ)])
theorem xj7:OrcOk Tryz.prog (ITryz.at 1) xb5:=xjC.fn
theorem xiK:LoOk Tryz.prog (ITryz.at xb5.pin) xb5 (loopAt Tryz.f158 2):=xaF (by kernel_rfl)
def xbe (i j:Int):=i64.wrap ((u64.wrap (i64.wrap (i+j))).fdiv 2)
def xgj (m i j:Int) (a:LA):=xbL ((a.getD (0+m.toNat) .top).cells.getD 0 .top).toList ((a.getD (0+(xbe i j).toNat) .top).cells.getD 0 .top).toList
def xen {T:Type} (b:Nat) (m i j:Int) (a:LA) (δ:T) (κl:(Int×Int×LA)→T) (κr:(Int×LA)→T):T:=br (decide (i<j)) (br (decide (0≤m)&&decide (m<(↑b:Int))) (br (decide (0+m.toNat<a.length)&&hasSh1 (Sh.list 3) ((a.getD (0+m.toNat) .top).cells.getD 0 .top)) (br (decide (0≤xbe i j)&&decide (xbe i j<(↑b:Int))) (br (decide (0+(xbe i j).toNat<a.length)&&hasSh1 (Sh.list 3) ((a.getD (0+(xbe i j).toNat) .top).cells.getD 0 .top)) (br ((xgj m i j a).isSome) (br (!decide ((xgj m i j a).getD 0<0)) (κl (i64.wrap (xbe i j+1),j,a)) (κl (i,xbe i j,a))) δ) δ) δ) δ) δ) (κr (i,a))
def xaU (b:Nat) (m:Int):(Int×Int×LA)→Option ((Int×Int×LA)⊕(Int×LA)):=fun (i,j,a)=>xen b m i j a none (fun s=>some (.inl s)) (fun p=>some (.inr p))
def xbW (b:Nat) (m:Int):(Int×Int×LA)→LA×List Box:=fun (i,j,a)=>([AV.osl 0 0 0 b,AV.int .i64 m,AV.func 88 [],AV.int .i64 i,AV.int .i64 j],[⟨0,1,40,a,false,true⟩])
def xbA (a:Nat) (m:Int):(Int×LA)→LR:=fun p=>(.leaf (.exit 4) [AV.osl 0 0 0 a,AV.int .i64 m,AV.int .i64 p.1] [⟨0,1,40,p.2,false,true⟩])
abbrev xkA (a:LA) (H:List Box):=XR Tryz.prog xb5 [0,2,4,14,15] [0,2,14] [] (loopAt Tryz.f158 2) a H
theorem xkF (a:Nat) (m:Int) (s:Int×Int×LA):Enc (encR (xbW a m) (xbA a m)) (xaU a m s) (xkA (xbW a m s).1 (xbW a m s).2):=by
 obtain ⟨i,j,b⟩:=s
 refine eV (xen a m i j b none (fun s=>some (encR (xbW a m) (xbA a m) (.inl s))) (fun p=>some (encR (xbW a m) (xbA a m) (.inr p)))) (by kernel_rfl) ?_;unfold xaU xen;repeat' first|exact eN|exact eS rfl|apply eB
def xcl:Lp:=lpOf [0,2,4,14,15] [0,2,14] [] (pCons (pOsl 0 0 0) (pCons (pInt .i64) (pCons (pFunc 88 pNil) (pCons (pInt .i64) (pCons (pInt .i64) pNil))))) (pCons (pBox 0 1 40 false true pAny) pNil) fun (a,(m,(_,(i,(j,_))))) (b,_)=>((Iter (xaU a m) (i,j,b)).isSome,xbA a m ((Iter (xaU a m) (i,j,b)).getD (0,[])))
theorem xjV:LoopOk Tryz.prog (ITryz.at xb5.pin) xb5.nt (loopAt Tryz.f158 2) xcl:=xbr fun d e g f=>by
 obtain ⟨a,⟨m,⟨_,⟨i,⟨j,_⟩⟩⟩⟩⟩:=d
 obtain ⟨b,_⟩:=e
 obtain ⟨c,rfl⟩:=Prod.mk.inj f
 exact xaH mxTryz (inv0Ok Tryz.prog _) rfl xj7 xiK (xbW a m) (xbA a m) (fun p=>by simp only [xbA,LR.eval];first|(simp;done)|(repeat' split<;>simp)) (xkF a m) (s:=(i,j,b)) (xah c)
def xca:Env:=xnk.fn 220 1 (lsOf [40]) (lpsOf [(3,xbb),(9,xbJ),(15,xcl)])
theorem xke:OrcOk Tryz.prog (ITryz.at 1) xca:=xjC.fn
theorem xiF:LoOk Tryz.prog (ITryz.at xca.pin) xca (loopAt Tryz.f158 3):=xaF (by kernel_rfl)
def xgm (a:Nat) (k:Int):=decide (0≤i64.wrap (k - 1))&&decide (i64.wrap (k - 1)<(↑a:Int))
def xbI (k:Int):Nat:=0+(i64.wrap (k - 1)).toNat
def xgy (k:Int) (a:LA):=decide (0+k.toNat<a.length)
def xek {T:Type} (b:Nat) (i k:Int) (a:LA) (δ:T) (κl:(Int×LA)→T) (κr:(LA)→T):T:=br (decide (k>i)) (br (xgm b k) (br (decide (xbI k<a.length)&&hasSh1 (Sh.list 3) ((a.getD (xbI k) .top).cells.getD 0 .top)) (br (decide (0≤k)&&decide (k<(↑b:Int))) (br (xgy k a&&hasSh1 (Sh.list 3) ((a.getD (0+k.toNat) .top).cells.getD 0 .top)) (br (decide (0≤k)&&decide (k<(↑b:Int))) (br (xgy k a) (br (xgm b k) (br (decide (xbI k<(a.set (0+k.toNat) (AV.list 3 ((a.getD (xbI k) .top).cells.getD 0 .top).toList)).length)) (κl (i64.wrap (k - 1),(a.set (0+k.toNat) (AV.list 3 ((a.getD (xbI k) .top).cells.getD 0 .top).toList)).set (xbI k) (AV.list 3 ((a.getD (0+k.toNat) .top).cells.getD 0 .top).toList))) δ) δ) δ) δ) δ) δ) δ) δ) (κr (a))
def xbo (b:Nat) (i:Int):(Int×LA)→Option ((Int×LA)⊕(LA)):=fun (k,a)=>xek b i k a none (fun s=>some (.inl s)) (fun p=>some (.inr p))
def xbR (b:Nat) (i:Int):(Int×LA)→LA×List Box:=fun (k,a)=>([AV.osl 0 0 0 b,AV.int .i64 i,AV.int .i64 k],[⟨0,1,40,a,false,true⟩])
def xbz (a:Nat) (i:Int):(LA)→LR:=fun p=>(.leaf (.exit 6) [] [⟨0,1,40,p,false,true⟩])
abbrev xkG (a:LA) (H:List Box):=XR Tryz.prog xca [0,14,17] [] [] (loopAt Tryz.f158 3) a H
theorem xkC (a:Nat) (i:Int) (s:Int×LA):Enc (encR (xbR a i) (xbz a i)) (xbo a i s) (xkG (xbR a i s).1 (xbR a i s).2):=by
 obtain ⟨k,b⟩:=s
 refine eV (xek a i k b none (fun s=>some (encR (xbR a i) (xbz a i) (.inl s))) (fun p=>some (encR (xbR a i) (xbz a i) (.inr p)))) (by kernel_rfl) ?_;unfold xbo xek;repeat' first|exact eN|exact eS rfl|apply eB
def xcP:Lp:=lpOf [0,14,17] [] [] (pCons (pOsl 0 0 0) (pCons (pInt .i64) (pCons (pInt .i64) pNil))) (pCons (pBox 0 1 40 false true pAny) pNil) fun (a,(i,(k,_))) (b,_)=>((Iter (xbo a i) (k,b)).isSome,xbz a i ((Iter (xbo a i) (k,b)).getD []))
theorem xjY:LoopOk Tryz.prog (ITryz.at xca.pin) xca.nt (loopAt Tryz.f158 3) xcP:=xbr fun d e g f=>by
 obtain ⟨a,⟨i,⟨k,_⟩⟩⟩:=d
 obtain ⟨b,_⟩:=e
 obtain ⟨c,rfl⟩:=Prod.mk.inj f
 exact xaH mxTryz (inv0Ok Tryz.prog _) rfl xke xiF (xbR a i) (xbz a i) (fun p=>by simp only [xbz,LR.eval];first|(simp;done)|(repeat' split<;>simp)) (xkC a i) (s:=(k,b)) (xah c)
def xcd:Env:=xnk.fn 220 1 (lsOf [40]) (lpsOf [(3,xbb),(9,xbJ),(15,xcl),(21,xcP)])
theorem xkn:OrcOk Tryz.prog (ITryz.at 1) xcd:=xjC.fn
theorem xiX:LoOk Tryz.prog (ITryz.at xcd.pin) xcd (loopAt Tryz.f158 4):=xaF (by kernel_rfl)
def xaG (a r:Int):=i64.wrap ((u64.wrap (i64.wrap (a+r))).fdiv 2)
def xgl (c b r:Int) (a:LA):=xbL ((a.getD (0+(i64.wrap (c - xaG b r)).toNat) .top).cells.getD 0 .top).toList ((a.getD (0+(xaG b r).toNat) .top).cells.getD 0 .top).toList
def xeo {T:Type} (e:Nat) (a m b g n f c r:Int) (d:LA) (δ:T) (κl:(Int×Int×LA)→T) (κr:(Int×LA)→T):T:=br (decide (c<r)) (br (decide (0≤i64.wrap (f - xaG c r))&&decide (i64.wrap (f - xaG c r)<(↑e:Int))) (br (decide (0+(i64.wrap (f - xaG c r)).toNat<d.length)&&hasSh1 (Sh.list 3) ((d.getD (0+(i64.wrap (f - xaG c r)).toNat) .top).cells.getD 0 .top)) (br (decide (0≤xaG c r)&&decide (xaG c r<(↑e:Int))) (br (decide (0+(xaG c r).toNat<d.length)&&hasSh1 (Sh.list 3) ((d.getD (0+(xaG c r).toNat) .top).cells.getD 0 .top)) (br ((xgl f c r d).isSome) (br (!decide ((xgl f c r d).getD 0<0)) (κl (i64.wrap (xaG c r+1),r,d)) (κl (c,xaG c r,d))) δ) δ) δ) δ) δ) (κr (c,d))
def xa4 (d:Nat) (a m b f n g:Int):(Int×Int×LA)→Option ((Int×Int×LA)⊕(Int×LA)):=fun (e,r,c)=>xeo d a m b f n g e r c none (fun s=>some (.inl s)) (fun p=>some (.inr p))
def xbV (d:Nat) (a m b f n g:Int):(Int×Int×LA)→LA×List Box:=fun (e,r,c)=>([AV.osl 0 0 0 d,AV.int .i64 a,AV.int .i64 m,AV.int .i64 b,AV.func 88 [],AV.int .i64 f,AV.int .i64 n,AV.int .i64 e,AV.int .i64 r,AV.int .i64 g],[⟨0,1,40,c,false,true⟩])
def xbv (c:Nat) (a m b d n e:Int):(Int×LA)→LR:=fun p=>(.leaf (.exit 8) [AV.osl 0 0 0 c,AV.int .i64 a,AV.int .i64 m,AV.int .i64 b,AV.func 88 [],AV.int .i64 d,AV.int .i64 n,AV.int .i64 p.1] [⟨0,1,40,p.2,false,true⟩])
abbrev xky (a:LA) (H:List Box):=XR Tryz.prog xcd [0,1,2,3,4,18,19,20,21,22] [0,1,2,3,4,18,19,20] [] (loopAt Tryz.f158 4) a H
theorem xku (c:Nat) (a m b d n e:Int) (s:Int×Int×LA):Enc (encR (xbV c a m b d n e) (xbv c a m b d n e)) (xa4 c a m b d n e s) (xky (xbV c a m b d n e s).1 (xbV c a m b d n e s).2):=by
 obtain ⟨g,r,f⟩:=s
 refine eV (xeo c a m b d n e g r f none (fun s=>some (encR (xbV c a m b d n e) (xbv c a m b d n e) (.inl s))) (fun p=>some (encR (xbV c a m b d n e) (xbv c a m b d n e) (.inr p)))) (by kernel_rfl) ?_;unfold xa4 xeo;repeat' first|exact eN|exact eS rfl|apply eB
def xdR:Lp:=lpOf [0,1,2,3,4,18,19,20,21,22] [0,1,2,3,4,18,19,20] [] (pCons (pOsl 0 0 0) (pCons (pInt .i64) (pCons (pInt .i64) (pCons (pInt .i64) (pCons (pFunc 88 pNil) (pCons (pInt .i64) (pCons (pInt .i64) (pCons (pInt .i64) (pCons (pInt .i64) (pCons (pInt .i64) pNil)))))))))) (pCons (pBox 0 1 40 false true pAny) pNil) fun (c,(a,(m,(b,(_,(f,(n,(e,(r,(g,_)))))))))) (d,_)=>((Iter (xa4 c a m b f n g) (e,r,d)).isSome,xbv c a m b f n g ((Iter (xa4 c a m b f n g) (e,r,d)).getD (0,[])))
theorem xjX:LoopOk Tryz.prog (ITryz.at xcd.pin) xcd.nt (loopAt Tryz.f158 4) xdR:=xbr fun i j l k=>by
 obtain ⟨c,⟨a,⟨m,⟨b,⟨_,⟨e,⟨n,⟨f,⟨r,⟨g,_⟩⟩⟩⟩⟩⟩⟩⟩⟩⟩:=i
 obtain ⟨d,_⟩:=j
 obtain ⟨h,rfl⟩:=Prod.mk.inj k
 exact xaH mxTryz (inv0Ok Tryz.prog _) rfl xkn xiX (xbV c a m b e n g) (xbv c a m b e n g) (fun p=>by simp only [xbv,LR.eval];first|(simp;done)|(repeat' split<;>simp)) (xku c a m b e n g) (s:=(f,r,d)) (xah h)
def xej (R:Nat→Int→Int→Int→LA→Option (LA)):LA→List Box→Option (Bool×AV×List Box):=omOf (sCons (sEq (pOsl 0 0 0)) (sCons (sEq (pInt .i64)) (sCons (sEq (pInt .i64)) (sCons (sEq (pInt .i64)) (sCons (sEq (pFunc (88:FuncId) pNil)) sNil))))) (pCons (pBox 0 1 (40:TypeId) false true pAny) pNil) fun (n,(a,(m,(b,(_,_))))) (c,_)=>((R n a m b c).isSome,(AV.tuple [],([⟨0,1,40,((R n a m b c).getD []),false,true⟩]:List Box)))
def xaQ (R:Nat→Int→Int→Int→LA→Option (LA)):Env:=(xnk.withM 158 (xej R)).fn 220 1 (lsOf [40]) (lpsOf [(3,xbb),(9,xbJ),(15,xcl),(21,xcP),(33,xdR)])
def xdW (R:Nat→Int→Int→Int→LA→Option (LA)):Prop:=OmOk Tryz.prog ITryz 158 (xej R)
theorem xkd (R:Nat→Int→Int→Int→LA→Option (LA)) (a:xdW R):OrcOk Tryz.prog (ITryz.at 1) (xaQ R):=(xjC.withM a).fn
theorem xjb (R:Nat→Int→Int→Int→LA→Option (LA)):LoOk Tryz.prog (ITryz.at (xaQ R).pin) (xaQ R) (Tryz.f158.body.getD .skip):=xbd (ls:=[loopAt Tryz.f158 0,loopAt Tryz.f158 1,loopAt Tryz.f158 2,loopAt Tryz.f158 3,loopAt Tryz.f158 4]) (by kernel_rfl) (fun l b lp a=>by
 simp only [List.mem_cons,List.not_mem_nil,or_false] at b
 rcases b with rfl|rfl|rfl|rfl|rfl
 · rw [show (xaQ R).lp (codeId (loopAt Tryz.f158 0))=some xbb by kernel_rfl] at a
   simp only [Option.some.injEq] at a;subst a;exact xjW
 · rw [show (xaQ R).lp (codeId (loopAt Tryz.f158 1))=some xbJ by kernel_rfl] at a
   simp only [Option.some.injEq] at a;subst a;exact xjT
 · rw [show (xaQ R).lp (codeId (loopAt Tryz.f158 2))=some xcl by kernel_rfl] at a
   simp only [Option.some.injEq] at a;subst a;exact xjV
 · rw [show (xaQ R).lp (codeId (loopAt Tryz.f158 3))=some xcP by kernel_rfl] at a
   simp only [Option.some.injEq] at a;subst a;exact xjY
 · rw [show (xaQ R).lp (codeId (loopAt Tryz.f158 4))=some xdR by kernel_rfl] at a
   simp only [Option.some.injEq] at a;subst a;exact xjX)
def xaa (a b:Int):=i64.wrap ((u64.wrap (i64.wrap (a+b))).fdiv 2)
def xau (n:Nat) (a m:Int) (b:LA):=Iter (xbo n ((Iter (xaU n m) (a,m,b)).getD (0,[])).fst) (m,((Iter (xaU n m) (a,m,b)).getD (0,[])).snd)
def xat (n:Nat) (a m b:Int) (c:LA):=Iter (xbq n ((Iter (xaT n a) (m,b,c)).getD (0,[])).fst) (a,((Iter (xaT n a) (m,b,c)).getD (0,[])).snd)
def xav (n:Nat) (a m b:Int) (c:LA):=Iter (xa4 n a m b (xaa a b) (i64.wrap (xaa a b+m)) (i64.wrap (i64.wrap (xaa a b+m) - 1))) (i64.wrap (i64.wrap (xaa a b+m) - b),xaa a b,c)
def xaA (n:Nat) (a m b:Int) (c:LA):=Iter (xa4 n a m b (xaa a b) (i64.wrap (xaa a b+m)) (i64.wrap (i64.wrap (xaa a b+m) - 1))) (a,m,c)
def xay (n:Nat) (a m b:Int) (c:LA):=(xav n a m b c).getD (0,[])
def xaz (n:Nat) (a m b:Int) (c:LA):=(xaA n a m b c).getD (0,[])
def xag (n:Nat) (a m b:Int) (c:LA):=(xay n a m b c).fst
def xaf (n:Nat) (a m b:Int) (c:LA):=(xaz n a m b c).fst
def xab (n:Nat) (a m b:Int) (c:LA):=(xay n a m b c).snd
def xac (n:Nat) (a m b:Int) (c:LA):=(xaz n a m b c).snd
def xae (n:Nat) (a m b:Int) (c:LA):=i64.wrap (i64.wrap (xaa a b+m) - xag n a m b c)
def xad (n:Nat) (a m b:Int) (c:LA):=i64.wrap (i64.wrap (xaa a b+m) - xaf n a m b c)
def xao (n:Nat) (a m b:Int) (c:LA):=decide (xag n a m b c<xaa a b)
def xar (n:Nat) (a m b:Int) (c:LA):=decide (a<xag n a m b c)
def xaq (n:Nat) (a m b:Int) (c:LA):=decide (xaf n a m b c<xaa a b)
def xap (n:Nat) (a m b:Int) (c:LA):=decide (a<xaf n a m b c)
def xam (n:Nat) (a m b:Int) (c:LA):=decide (xaa a b<xae n a m b c)
def xak (n:Nat) (a m b:Int) (c:LA):=decide (xae n a m b c<b)
def xal (n:Nat) (a m b:Int) (c:LA):=decide (xaa a b<xad n a m b c)
def xan (n:Nat) (a m b:Int) (c:LA):=decide (xad n a m b c<b)
def xaj (n:Nat) (a m b:Int) (c:LA):=(xa1 n (xag n a m b c) m (xae n a m b c) (xab n a m b c)).getD []
def xai (n:Nat) (a m b:Int) (c:LA):=(xa1 n (xaf n a m b c) m (xad n a m b c) (xac n a m b c)).getD []
def xaB (R:Nat→Int→Int→Int→LA→Option (LA)) (n:Nat) (a m b:Int) (c:LA):Option (LA):=R n (xaa a b) (xad n a m b c) b ((R n a (xaf n a m b c) (xaa a b) (xai n a m b c)).getD [])
def xaw (R:Nat→Int→Int→Int→LA→Option (LA)) (n:Nat) (a m b:Int) (c:LA):Option (LA):=R n (xaa a b) (xae n a m b c) b ((R n a (xag n a m b c) (xaa a b) (xaj n a m b c)).getD [])
def xaC {T:Type} (R:Nat→Int→Int→Int→LA→Option (LA)) (n:Nat) (a m b:Int) (c:LA) (δ:T) (κ:LA→T):T:=br (i64.wrap (m - a)==1) (br ((Iter (xaT n a) (m,b,c)).isSome) (br ((xat n a m b c).isSome) (κ ((xat n a m b c).getD [])) δ) δ) (br (i64.wrap (b - m)==1) (br ((Iter (xaU n m) (a,m,c)).isSome) (br ((xau n a m c).isSome) (κ ((xau n a m c).getD [])) δ) δ) (br (decide (m>xaa a b)) (br ((xav n a m b c).isSome) (br (decide (xag n a m b c<m)) (br (decide (m<xae n a m b c)) (br ((xa1 n (xag n a m b c) m (xae n a m b c) (xab n a m b c)).isSome) (br (xar n a m b c) (br (xao n a m b c) (br ((R n a (xag n a m b c) (xaa a b) (xaj n a m b c)).isSome) (br (xam n a m b c) (br (xak n a m b c) (br ((xaw R n a m b c).isSome) (κ ((xaw R n a m b c).getD [])) δ) (κ ((R n a (xag n a m b c) (xaa a b) (xaj n a m b c)).getD []))) (κ ((R n a (xag n a m b c) (xaa a b) (xaj n a m b c)).getD []))) δ) (br (xam n a m b c) (br (xak n a m b c) (br ((R n (xaa a b) (xae n a m b c) b (xaj n a m b c)).isSome) (κ ((R n (xaa a b) (xae n a m b c) b (xaj n a m b c)).getD [])) δ) (κ (xaj n a m b c))) (κ (xaj n a m b c)))) (br (xam n a m b c) (br (xak n a m b c) (br ((R n (xaa a b) (xae n a m b c) b (xaj n a m b c)).isSome) (κ ((R n (xaa a b) (xae n a m b c) b (xaj n a m b c)).getD [])) δ) (κ (xaj n a m b c))) (κ (xaj n a m b c)))) δ) (br (xar n a m b c) (br (xao n a m b c) (br ((R n a (xag n a m b c) (xaa a b) (xab n a m b c)).isSome) (br (xam n a m b c) (br (xak n a m b c) (br ((R n (xaa a b) (xae n a m b c) b ((R n a (xag n a m b c) (xaa a b) (xab n a m b c)).getD [])).isSome) (κ ((R n (xaa a b) (xae n a m b c) b ((R n a (xag n a m b c) (xaa a b) (xab n a m b c)).getD [])).getD [])) δ) (κ ((R n a (xag n a m b c) (xaa a b) (xab n a m b c)).getD []))) (κ ((R n a (xag n a m b c) (xaa a b) (xab n a m b c)).getD []))) δ) (br (xam n a m b c) (br (xak n a m b c) (br ((R n (xaa a b) (xae n a m b c) b (xab n a m b c)).isSome) (κ ((R n (xaa a b) (xae n a m b c) b (xab n a m b c)).getD [])) δ) (κ (xab n a m b c))) (κ (xab n a m b c)))) (br (xam n a m b c) (br (xak n a m b c) (br ((R n (xaa a b) (xae n a m b c) b (xab n a m b c)).isSome) (κ ((R n (xaa a b) (xae n a m b c) b (xab n a m b c)).getD [])) δ) (κ (xab n a m b c))) (κ (xab n a m b c))))) (br (xar n a m b c) (br (xao n a m b c) (br ((R n a (xag n a m b c) (xaa a b) (xab n a m b c)).isSome) (br (xam n a m b c) (br (xak n a m b c) (br ((R n (xaa a b) (xae n a m b c) b ((R n a (xag n a m b c) (xaa a b) (xab n a m b c)).getD [])).isSome) (κ ((R n (xaa a b) (xae n a m b c) b ((R n a (xag n a m b c) (xaa a b) (xab n a m b c)).getD [])).getD [])) δ) (κ ((R n a (xag n a m b c) (xaa a b) (xab n a m b c)).getD []))) (κ ((R n a (xag n a m b c) (xaa a b) (xab n a m b c)).getD []))) δ) (br (xam n a m b c) (br (xak n a m b c) (br ((R n (xaa a b) (xae n a m b c) b (xab n a m b c)).isSome) (κ ((R n (xaa a b) (xae n a m b c) b (xab n a m b c)).getD [])) δ) (κ (xab n a m b c))) (κ (xab n a m b c)))) (br (xam n a m b c) (br (xak n a m b c) (br ((R n (xaa a b) (xae n a m b c) b (xab n a m b c)).isSome) (κ ((R n (xaa a b) (xae n a m b c) b (xab n a m b c)).getD [])) δ) (κ (xab n a m b c))) (κ (xab n a m b c))))) δ) (br ((xaA n a m b c).isSome) (br (decide (xaf n a m b c<m)) (br (decide (m<xad n a m b c)) (br ((xa1 n (xaf n a m b c) m (xad n a m b c) (xac n a m b c)).isSome) (br (xap n a m b c) (br (xaq n a m b c) (br ((R n a (xaf n a m b c) (xaa a b) (xai n a m b c)).isSome) (br (xal n a m b c) (br (xan n a m b c) (br ((xaB R n a m b c).isSome) (κ ((xaB R n a m b c).getD [])) δ) (κ ((R n a (xaf n a m b c) (xaa a b) (xai n a m b c)).getD []))) (κ ((R n a (xaf n a m b c) (xaa a b) (xai n a m b c)).getD []))) δ) (br (xal n a m b c) (br (xan n a m b c) (br ((R n (xaa a b) (xad n a m b c) b (xai n a m b c)).isSome) (κ ((R n (xaa a b) (xad n a m b c) b (xai n a m b c)).getD [])) δ) (κ (xai n a m b c))) (κ (xai n a m b c)))) (br (xal n a m b c) (br (xan n a m b c) (br ((R n (xaa a b) (xad n a m b c) b (xai n a m b c)).isSome) (κ ((R n (xaa a b) (xad n a m b c) b (xai n a m b c)).getD [])) δ) (κ (xai n a m b c))) (κ (xai n a m b c)))) δ) (br (xap n a m b c) (br (xaq n a m b c) (br ((R n a (xaf n a m b c) (xaa a b) (xac n a m b c)).isSome) (br (xal n a m b c) (br (xan n a m b c) (br ((R n (xaa a b) (xad n a m b c) b ((R n a (xaf n a m b c) (xaa a b) (xac n a m b c)).getD [])).isSome) (κ ((R n (xaa a b) (xad n a m b c) b ((R n a (xaf n a m b c) (xaa a b) (xac n a m b c)).getD [])).getD [])) δ) (κ ((R n a (xaf n a m b c) (xaa a b) (xac n a m b c)).getD []))) (κ ((R n a (xaf n a m b c) (xaa a b) (xac n a m b c)).getD []))) δ) (br (xal n a m b c) (br (xan n a m b c) (br ((R n (xaa a b) (xad n a m b c) b (xac n a m b c)).isSome) (κ ((R n (xaa a b) (xad n a m b c) b (xac n a m b c)).getD [])) δ) (κ (xac n a m b c))) (κ (xac n a m b c)))) (br (xal n a m b c) (br (xan n a m b c) (br ((R n (xaa a b) (xad n a m b c) b (xac n a m b c)).isSome) (κ ((R n (xaa a b) (xad n a m b c) b (xac n a m b c)).getD [])) δ) (κ (xac n a m b c))) (κ (xac n a m b c))))) (br (xap n a m b c) (br (xaq n a m b c) (br ((R n a (xaf n a m b c) (xaa a b) (xac n a m b c)).isSome) (br (xal n a m b c) (br (xan n a m b c) (br ((R n (xaa a b) (xad n a m b c) b ((R n a (xaf n a m b c) (xaa a b) (xac n a m b c)).getD [])).isSome) (κ ((R n (xaa a b) (xad n a m b c) b ((R n a (xaf n a m b c) (xaa a b) (xac n a m b c)).getD [])).getD [])) δ) (κ ((R n a (xaf n a m b c) (xaa a b) (xac n a m b c)).getD []))) (κ ((R n a (xaf n a m b c) (xaa a b) (xac n a m b c)).getD []))) δ) (br (xal n a m b c) (br (xan n a m b c) (br ((R n (xaa a b) (xad n a m b c) b (xac n a m b c)).isSome) (κ ((R n (xaa a b) (xad n a m b c) b (xac n a m b c)).getD [])) δ) (κ (xac n a m b c))) (κ (xac n a m b c)))) (br (xal n a m b c) (br (xan n a m b c) (br ((R n (xaa a b) (xad n a m b c) b (xac n a m b c)).isSome) (κ ((R n (xaa a b) (xad n a m b c) b (xac n a m b c)).getD [])) δ) (κ (xac n a m b c))) (κ (xac n a m b c))))) δ)))
def xas (R:Nat→Int→Int→Int→LA→Option (LA)) (n:Nat) (a m b:Int) (c:LA):Option (LA):=xaC R n a m b c none some
theorem xlC (R:Nat→Int→Int→Int→LA→Option (LA)) (n:Nat) (a m b:Int) (xs:LA):Enc (fun (p:LA)=>(((AV.tuple [],([⟨0,1,40,p,false,true⟩]:List Box))):(AV×List Box))) (xas R n a m b xs) (XFM Tryz.prog (xaQ R) Tryz.f158 (Tryz.f158.body.getD .skip) [AV.osl (0:Id) 0 0 n,AV.int .i64 a,AV.int .i64 m,AV.int .i64 b,AV.func (88:FuncId) []] [{ ver:=0,sz:=1,ty:=(40:TypeId),xs:=xs,frz:=false,pm:=true }]):=by
 refine eV (xaC R n a m b xs none (fun (p:LA)=>some (((AV.tuple [],([⟨0,1,40,p,false,true⟩]:List Box))):(AV×List Box)))) (by kernel_rfl) ?_;unfold xas xaC;repeat' first|exact eN|exact eS rfl|apply eB
def xlD (R:Nat→Int→Int→Int→LA→Option (LA)):LA→List Box→Option (Bool×AV×List Box):=omOf (sCons (sEq (pOsl 0 0 0)) (sCons (sEq (pInt .i64)) (sCons (sEq (pInt .i64)) (sCons (sEq (pInt .i64)) (sCons (sEq (pFunc (88:FuncId) pNil)) sNil))))) (pCons (pBox 0 1 (40:TypeId) false true pAny) pNil) fun (n,(a,(m,(b,(_,_))))) (c,_)=>((xas R n a m b c).isSome,((AV.tuple [],([⟨0,1,40,((xas R n a m b c).getD []),false,true⟩]:List Box))))
theorem xlI (R:Nat→Int→Int→Int→LA→Option (LA)) (f:xdW R):OmOk Tryz.prog ITryz 158 (xlD R):=xhZ fun g h k j i=>by
 obtain ⟨n,⟨a,⟨m,⟨b,⟨_,_⟩⟩⟩⟩⟩:=g
 obtain ⟨l,_⟩:=h
 obtain ⟨c,e⟩:=Prod.mk.inj i
 refine xfw (p:=(xaQ R).pin) (xge mxTryz (inv0Ok Tryz.prog _) rfl (xkd R f) rfl Tryz.func158 rfl (by kernel_rfl) (xjb R) ((xlC R _ _ _ _ _ _ (xah (d:=[]) c)).trans ?_))
 exact congrArg some e
def xaI:Nat→Nat→Int→Int→Int→LA→Option (LA)
 | 0=>fun _ _ _ _ _=>none
 | fu_+1=>fun n a m b c=>xas (xaI fu_) n a m b c
theorem xgO:∀ n,xdW (xaI n)
 | 0=>xhZ fun _ _ _ _ h=>absurd (Prod.mk.inj h).1 Bool.false_ne_true
 | fu_+1=>fun a H r b h=>xlI (xaI fu_) (xgO fu_) a H r b h
def xrm:Env:=xnk.withM 158 (xej (xaI 1000))
theorem xmJ:OrcOk Tryz.prog ITryz xrm:=xjC.withM (xgO _)
def xcn:Env:=xrm.fn 63 1 (lsOf [40]) (lpsOf [])
theorem xkO:OrcOk Tryz.prog (ITryz.at 1) xcn:=xmJ.fn
theorem xjo:LoOk Tryz.prog (ITryz.at xcn.pin) xcn (loopAt Tryz.f137 0):=xaF (by kernel_rfl)
def xeO {T:Type} (d:Nat) (n e a b:Int) (c:LA) (δ:T) (κl:(Int×Int×LA)→T) (κr:(Int×LA)→T):T:=br (decide (b≤n)) (br ((xaN d a b c).isSome) (κl (b,i64.wrap (b+e),(xaN d a b c).getD [])) δ) (κr (a,c))
def xaZ (e:Nat) (n c:Int):(Int×Int×LA)→Option ((Int×Int×LA)⊕(Int×LA)):=fun (a,b,d)=>xeO e n c a b d none (fun s=>some (.inl s)) (fun p=>some (.inr p))
def xcf (e:Nat) (n c:Int):(Int×Int×LA)→LA×List Box:=fun (a,b,d)=>([AV.osl 0 0 0 e,AV.int .i64 n,AV.func 88 [],AV.int .i64 c,AV.int .i64 a,AV.int .i64 b],[⟨0,1,40,d,false,true⟩])
def xbQ (b:Nat) (n a:Int):(Int×LA)→LR:=fun p=>(.leaf (.exit 0) [AV.osl 0 0 0 b,AV.int .i64 n,AV.func 88 [],AV.int .i64 a,AV.int .i64 p.1] [⟨0,1,40,p.2,false,true⟩])
abbrev xlv (a:LA) (H:List Box):=XR Tryz.prog xcn [0,1,2,6,7,8] [0,1,2,6,7] [] (loopAt Tryz.f137 0) a H
theorem xlm (d:Nat) (n c:Int) (s:Int×Int×LA):Enc (encR (xcf d n c) (xbQ d n c)) (xaZ d n c s) (xlv (xcf d n c s).1 (xcf d n c s).2):=by
 obtain ⟨a,b,e⟩:=s
 refine eV (xeO d n c a b e none (fun s=>some (encR (xcf d n c) (xbQ d n c) (.inl s))) (fun p=>some (encR (xcf d n c) (xbQ d n c) (.inr p)))) (by kernel_rfl) ?_;unfold xaZ xeO;repeat' first|exact eN|exact eS rfl|apply eB
def xdi:Lp:=lpOf [0,1,2,6,7,8] [0,1,2,6,7] [] (pCons (pOsl 0 0 0) (pCons (pInt .i64) (pCons (pFunc 88 pNil) (pCons (pInt .i64) (pCons (pInt .i64) (pCons (pInt .i64) pNil)))))) (pCons (pBox 0 1 40 false true pAny) pNil) fun (d,(n,(_,(c,(a,(b,_)))))) (e,_)=>((Iter (xaZ d n c) (a,b,e)).isSome,xbQ d n c ((Iter (xaZ d n c) (a,b,e)).getD (0,[])))
theorem xkz:LoopOk Tryz.prog (ITryz.at xcn.pin) xcn.nt (loopAt Tryz.f137 0) xdi:=xbr fun g h j i=>by
 obtain ⟨d,⟨n,⟨_,⟨c,⟨a,⟨b,_⟩⟩⟩⟩⟩⟩:=g
 obtain ⟨e,_⟩:=h
 obtain ⟨f,rfl⟩:=Prod.mk.inj i
 exact xaH mxTryz (inv0Ok Tryz.prog _) rfl xkO xjo (xcf d n c) (xbQ d n c) (fun p=>by simp only [xbQ,LR.eval];first|(simp;done)|(repeat' split<;>simp)) (xlm d n c) (s:=(a,b,e)) (xah f)
def xco:Env:=xrm.fn 63 1 (lsOf [40]) (lpsOf [(2,xdi)])
theorem xkV:OrcOk Tryz.prog (ITryz.at 1) xco:=xmJ.fn
theorem xjp:LoOk Tryz.prog (ITryz.at xco.pin) xco (loopAt Tryz.f137 2):=xaF (by kernel_rfl)
def xeR {T:Type} (e:Nat) (n c a b:Int) (d:LA) (δ:T) (κl:(Int×Int×LA)→T) (κr:(Int×LA)→T):T:=br (decide (b≤n)) (br ((xaI 1000 e a (i64.wrap (a+c)) b d).isSome) (κl (b,i64.wrap (b+i64.wrap (2*c)),(xaI 1000 e a (i64.wrap (a+c)) b d).getD [])) δ) (κr (a,d))
def xbc (e:Nat) (n c:Int):(Int×Int×LA)→Option ((Int×Int×LA)⊕(Int×LA)):=fun (a,b,d)=>xeR e n c a b d none (fun s=>some (.inl s)) (fun p=>some (.inr p))
def xcc (e:Nat) (n c:Int):(Int×Int×LA)→LA×List Box:=fun (a,b,d)=>([AV.osl 0 0 0 e,AV.int .i64 n,AV.func 88 [],AV.int .i64 c,AV.int .i64 a,AV.int .i64 b],[⟨0,1,40,d,false,true⟩])
def xbT (b:Nat) (n a:Int):(Int×LA)→LR:=fun p=>(.leaf (.exit 4) [AV.osl 0 0 0 b,AV.int .i64 n,AV.func 88 [],AV.int .i64 a,AV.int .i64 p.1] [⟨0,1,40,p.2,false,true⟩])
abbrev xlz (a:LA) (H:List Box):=XR Tryz.prog xco [0,1,2,6,7,8] [0,1,2,6,7] [] (loopAt Tryz.f137 2) a H
theorem xlt (d:Nat) (n c:Int) (s:Int×Int×LA):Enc (encR (xcc d n c) (xbT d n c)) (xbc d n c s) (xlz (xcc d n c s).1 (xcc d n c s).2):=by
 obtain ⟨a,b,e⟩:=s
 refine eV (xeR d n c a b e none (fun s=>some (encR (xcc d n c) (xbT d n c) (.inl s))) (fun p=>some (encR (xcc d n c) (xbT d n c) (.inr p)))) (by kernel_rfl) ?_;unfold xbc xeR;repeat' first|exact eN|exact eS rfl|apply eB
def xez:Lp:=lpOf [0,1,2,6,7,8] [0,1,2,6,7] [] (pCons (pOsl 0 0 0) (pCons (pInt .i64) (pCons (pFunc 88 pNil) (pCons (pInt .i64) (pCons (pInt .i64) (pCons (pInt .i64) pNil)))))) (pCons (pBox 0 1 40 false true pAny) pNil) fun (d,(n,(_,(c,(a,(b,_)))))) (e,_)=>((Iter (xbc d n c) (a,b,e)).isSome,xbT d n c ((Iter (xbc d n c) (a,b,e)).getD (0,[])))
theorem xgP:LoopOk Tryz.prog (ITryz.at xco.pin) xco.nt (loopAt Tryz.f137 2) xez:=xbr fun g h j i=>by
 obtain ⟨d,⟨n,⟨_,⟨c,⟨a,⟨b,_⟩⟩⟩⟩⟩⟩:=g
 obtain ⟨e,_⟩:=h
 obtain ⟨f,rfl⟩:=Prod.mk.inj i
 exact xaH mxTryz (inv0Ok Tryz.prog _) rfl xkV xjp (xcc d n c) (xbT d n c) (fun p=>by simp only [xbT,LR.eval];first|(simp;done)|(repeat' split<;>simp)) (xlt d n c) (s:=(a,b,e)) (xah f)
def xcq:Env:=xrm.fn 63 1 (lsOf [40]) (lpsOf [(2,xdi),(9,xez)])
theorem xkY:OrcOk Tryz.prog (ITryz.at 1) xcq:=xmJ.fn
theorem xjh:LoOk Tryz.prog (ITryz.at xcq.pin) xcq (loopAt Tryz.f137 1):=xbd (ls:=[loopAt Tryz.f137 2]) (by kernel_rfl) (lkC xgP lkN)
def xde (c:Nat) (n a:Int) (b:LA):=Iter (xbc c n a) (0,i64.wrap (2*a),b)
def xdg (c:Nat) (n a:Int) (b:LA):=(xde c n a b).getD (0,[])
def xc8 (c:Nat) (n a:Int) (b:LA):=(xdg c n a b).snd
def xda (c:Nat) (n a:Int) (b:LA):=(xdg c n a b).fst
def xdf (c:Nat) (n a:Int) (b:LA):=i64.wrap (xda c n a b+a)
def xc7 (b:Nat) (n a:Int) (c:LA):=xaI 1000 b (xda b n a c) (xdf b n a c) n (xc8 b n a c)
def xb9 {T:Type} (c:Nat) (n a:Int) (b:LA) (δ:T) (κl:(Int×LA)→T) (κr:(LA)→T):T:=br (decide (a<n)) (br ((xde c n a b).isSome) (br (decide (xdf c n a b<n)) (br ((xc7 c n a b).isSome) (κl (i64.wrap (a*2),(xc7 c n a b).getD [])) δ) (κl (i64.wrap (a*2),xc8 c n a b))) δ) (κr (b))
def xaK (c:Nat) (n:Int):(Int×LA)→Option ((Int×LA)⊕(LA)):=fun (a,b)=>xb9 c n a b none (fun s=>some (.inl s)) (fun p=>some (.inr p))
def xce (c:Nat) (n:Int):(Int×LA)→LA×List Box:=fun (a,b)=>([AV.osl 0 0 0 c,AV.int .i64 n,AV.func 88 [],AV.int .i64 a],[⟨0,1,40,b,false,true⟩])
def xbS (a:Nat) (n:Int):(LA)→LR:=fun p=>(.leaf (.exit 2) [] [⟨0,1,40,p,false,true⟩])
abbrev xlh (a:LA) (H:List Box):=XR Tryz.prog xcq [0,1,2,6] [] [] (loopAt Tryz.f137 1) a H
theorem xlf (a:Nat) (n:Int) (s:Int×LA):Enc (encR (xce a n) (xbS a n)) (xaK a n s) (xlh (xce a n s).1 (xce a n s).2):=by
 obtain ⟨b,c⟩:=s
 refine eV (xb9 a n b c none (fun s=>some (encR (xce a n) (xbS a n) (.inl s))) (fun p=>some (encR (xce a n) (xbS a n) (.inr p)))) (by kernel_rfl) ?_;unfold xaK xb9;repeat' first|exact eN|exact eS rfl|apply eB
def xhn:Lp:=lpOf [0,1,2,6] [] [] (pCons (pOsl 0 0 0) (pCons (pInt .i64) (pCons (pFunc 88 pNil) (pCons (pInt .i64) pNil)))) (pCons (pBox 0 1 40 false true pAny) pNil) fun (b,(n,(_,(a,_)))) (c,_)=>((Iter (xaK b n) (a,c)).isSome,xbS b n ((Iter (xaK b n) (a,c)).getD []))
theorem xkw:LoopOk Tryz.prog (ITryz.at xcq.pin) xcq.nt (loopAt Tryz.f137 1) xhn:=xbr fun e f h g=>by
 obtain ⟨a,⟨n,⟨_,⟨b,_⟩⟩⟩⟩:=e
 obtain ⟨c,_⟩:=f
 obtain ⟨d,rfl⟩:=Prod.mk.inj g
 exact xaH mxTryz (inv0Ok Tryz.prog _) rfl xkY xjh (xce a n) (xbS a n) (fun p=>by simp only [xbS,LR.eval];first|(simp;done)|(repeat' split<;>simp)) (xlf a n) (s:=(b,c)) (xah d)
def xcS:Env:=xrm.fn 63 1 (lsOf [40]) (lpsOf [(2,xdi),(9,xez),(7,xhn)])
theorem xkX:OrcOk Tryz.prog (ITryz.at 1) xcS:=xmJ.fn
theorem xjP:LoOk Tryz.prog (ITryz.at xcS.pin) xcS (Tryz.f137.body.getD .skip):=xbd (ls:=[loopAt Tryz.f137 0,loopAt Tryz.f137 1,loopAt Tryz.f137 2]) (by kernel_rfl) (lkC xkz (lkC xkw (lkC xgP lkN)))
def xfo (n:Nat) (k:Int) (a:LA):=(Iter (xaZ n k 20) (0,20,a)).getD (0,[])
def xfn (n:Nat) (k:Int) (a:LA):=xaN n (xfo n k a).fst k (xfo n k a).snd
def xfm (n:Nat) (k:Int) (a:LA):=Iter (xaK n k) (20,(xfn n k a).getD [])
def xdU {T:Type} (n:Nat) (k:Int) (a:LA) (δ:T) (κ:LA→T):T:=br ((Iter (xaZ n k 20) (0,20,a)).isSome) (br ((xfn n k a).isSome) (br ((xfm n k a).isSome) (κ ((xfm n k a).getD [])) δ) δ) δ
def xbx (n:Nat) (k:Int) (a:LA):Option (LA):=xdU n k a none some
theorem xmk (n:Nat) (k:Int) (xs:LA):Enc (fun (p:LA)=>(((AV.tuple [],([⟨0,1,40,p,false,true⟩]:List Box))):(AV×List Box))) (xbx n k xs) (XFM Tryz.prog xcS Tryz.f137 (Tryz.f137.body.getD .skip) [AV.osl (0:Id) 0 0 n,AV.int .i64 k,AV.func (88:FuncId) []] [{ ver:=0,sz:=1,ty:=(40:TypeId),xs:=xs,frz:=false,pm:=true }]):=by
 refine eV (xdU n k xs none (fun (p:LA)=>some (((AV.tuple [],([⟨0,1,40,p,false,true⟩]:List Box))):(AV×List Box)))) (by kernel_rfl) ?_;unfold xbx xdU;repeat' first|exact eN|exact eS rfl|apply eB
def xiv:LA→List Box→Option (Bool×AV×List Box):=omOf (sCons (sEq (pOsl 0 0 0)) (sCons (sEq (pInt .i64)) (sCons (sEq (pFunc (88:FuncId) pNil)) sNil))) (pCons (pBox 0 1 (40:TypeId) false true pAny) pNil) fun (n,(k,(_,_))) (a,_)=>((xbx n k a).isSome,((AV.tuple [],([⟨0,1,40,((xbx n k a).getD []),false,true⟩]:List Box))))
theorem xmu:OmOk Tryz.prog ITryz 137 (xiv):=xhZ fun c e h g f=>by
 obtain ⟨n,⟨k,⟨_,_⟩⟩⟩:=c
 obtain ⟨i,_⟩:=e
 obtain ⟨a,b⟩:=Prod.mk.inj f
 refine xfw (p:=xcS.pin) (xge mxTryz (inv0Ok Tryz.prog _) rfl xkX rfl Tryz.func137 rfl (by kernel_rfl) xjP ((xmk _ _ _ _ (xah (d:=[]) a)).trans ?_))
 exact congrArg some b
def xAp:Env:=xrm.withM 137 xiv
theorem xya:OrcOk Tryz.prog ITryz xAp:=xmJ.withM xmu
def xcI:Env:=xAp.fn 9 1 (lsOf [40]) (lpsOf [])
theorem xkv:OrcOk Tryz.prog (ITryz.at 1) xcI:=xya.fn
theorem xjy:LoOk Tryz.prog (ITryz.at xcI.pin) xcI (Tryz.f112.body.getD .skip):=xaF (by kernel_rfl)
def xdP {T:Type} (n:Nat) (a:LA) (δ:T) (κ:LA→T):T:=br ((xbx n (↑n:Int) a).isSome) (κ ((xbx n (↑n:Int) a).getD [])) δ
def xcA (n:Nat) (a:LA):Option (LA):=xdP n a none some
theorem xl0 (n:Nat) (xs:LA):Enc (fun (p:LA)=>(((AV.tuple [],([⟨0,1,40,p,false,true⟩]:List Box))):(AV×List Box))) (xcA n xs) (XFM Tryz.prog xcI Tryz.f112 (Tryz.f112.body.getD .skip) [AV.osl (0:Id) 0 0 n,AV.func (88:FuncId) []] [{ ver:=0,sz:=1,ty:=(40:TypeId),xs:=xs,frz:=false,pm:=true }]):=by
 refine eV (xdP n xs none (fun (p:LA)=>some (((AV.tuple [],([⟨0,1,40,p,false,true⟩]:List Box))):(AV×List Box)))) (by kernel_rfl) ?_;unfold xcA xdP;repeat' first|exact eN|exact eS rfl|apply eB
def xia:LA→List Box→Option (Bool×AV×List Box):=omOf (sCons (sEq (pOsl 0 0 0)) (sCons (sEq (pFunc (88:FuncId) pNil)) sNil)) (pCons (pBox 0 1 (40:TypeId) false true pAny) pNil) fun (n,(_,_)) (a,_)=>((xcA n a).isSome,((AV.tuple [],([⟨0,1,40,((xcA n a).getD []),false,true⟩]:List Box))))
theorem xl3:OmOk Tryz.prog ITryz 112 (xia):=xhZ fun c e h g f=>by
 obtain ⟨n,⟨_,_⟩⟩:=c
 obtain ⟨i,_⟩:=e
 obtain ⟨a,b⟩:=Prod.mk.inj f
 refine xfw (p:=xcI.pin) (xge mxTryz (inv0Ok Tryz.prog _) rfl xkv rfl Tryz.func112 rfl (by kernel_rfl) xjy ((xl0 _ _ _ (xah (d:=[]) a)).trans ?_))
 exact congrArg some b
def xwt:Env:=xAp.withM 112 xia
theorem xsX:OrcOk Tryz.prog ITryz xwt:=xya.withM xl3
def xd0:Env:=xwt.fn 27 0 (lsOf [40]) (lpsOf [])
theorem xo3:OrcOk Tryz.prog (ITryz.at 0) xd0:=xsX.fn
theorem xmt:LoOk Tryz.prog (ITryz.at xd0.pin) xd0 (loopAt Tryz.f87 0):=xaF (by kernel_rfl)
def xer {T:Type} (d:LA) (e:Int) (a:Nat) (b:Int) (c:LA) (δ:T) (κl:(Nat×Int×LA)→T) (κr:(Nat×LA)→T):T:=br (decide (b<e)) (br (decide (0≤b)&&decide (b<d.length)) (br (decide (b.toNat<d.length)&&hasSh1 (Sh.list 3) ((d.getD b.toNat .top).cells.getD 0 .top)) (br (decide (((d.getD b.toNat .top).cells.getD 0 .top).toList.length≤4398046511104)) (br (a==c.length&&(decide ((a+1)*24≤140737488355328)&&decide (a+1≤4611686018427387904))) (κl (a+1,i64.wrap (b+1),c++[AV.list 3 ((d.getD b.toNat .top).cells.getD 0 .top).toList])) δ) δ) δ) δ) (κr (a,c))
def xa8 (c:LA) (d:Int):(Nat×Int×LA)→Option ((Nat×Int×LA)⊕(Nat×LA)):=fun (b,e,a)=>xer c d b e a none (fun s=>some (.inl s)) (fun p=>some (.inr p))
def xdy (c:LA) (d:Int):(Nat×Int×LA)→LA×List Box:=fun (b,e,a)=>([AV.func 88 [],AV.osl 0 0 0 b,AV.list 1 c,AV.int .i64 d,AV.int .i64 e],[⟨0,1,40,a,false,true⟩])
def xcV (a:LA) (b:Int):(Nat×LA)→LR:=fun p=>(.leaf (.exit 0) [AV.func 88 [],AV.osl 0 0 0 p.1] [⟨0,1,40,p.2,false,true⟩])
abbrev xpR (a:LA) (H:List Box):=XR Tryz.prog xd0 [1,5,11,12,13] [1,5] [(5,1,40)] (loopAt Tryz.f87 0) a H
theorem xpG (a:LA) (b:Int) (s:Nat×Int×LA):Enc (encR (xdy a b) (xcV a b)) (xa8 a b s) (xpR (xdy a b s).1 (xdy a b s).2):=by
 obtain ⟨d,e,c⟩:=s
 refine eV (xer a b d e c none (fun s=>some (encR (xdy a b) (xcV a b) (.inl s))) (fun p=>some (encR (xdy a b) (xcV a b) (.inr p)))) (by kernel_rfl) ?_;unfold xa8 xer;repeat' first|exact eN|exact eS rfl|apply eB
def xkh:Lp:=lpOf [1,5,11,12,13] [1,5] [(5,1,40)] (pCons (pFunc 88 pNil) (pCons (pOsl 0 0 0) (pCons (pList 1 pAny) (pCons (pInt .i64) (pCons (pInt .i64) pNil))))) (pCons (pBox 0 1 40 false true pAny) pNil) fun (_,(b,(c,(d,(e,_))))) (a,_)=>((Iter (xa8 c d) (b,e,a)).isSome,xcV c d ((Iter (xa8 c d) (b,e,a)).getD (0,[])))
theorem xon:LoopOk Tryz.prog (ITryz.at xd0.pin) xd0.nt (loopAt Tryz.f87 0) xkh:=xbr fun g h j i=>by
 obtain ⟨_,⟨d,⟨a,⟨b,⟨e,_⟩⟩⟩⟩⟩:=g
 obtain ⟨c,_⟩:=h
 obtain ⟨f,rfl⟩:=Prod.mk.inj i
 exact xaH mxTryz (inv0Ok Tryz.prog _) rfl xo3 xmt (xdy a b) (xcV a b) (fun p=>by simp only [xcV,LR.eval];first|(simp;done)|(repeat' split<;>simp)) (xpG a b) (s:=(d,e,c)) (xah f)
def xfh:Env:=xwt.fn 27 0 (lsOf [40]) (lpsOf [(3,xkh)])
theorem xo6:OrcOk Tryz.prog (ITryz.at 0) xfh:=xsX.fn
theorem xnv:LoOk Tryz.prog (ITryz.at xfh.pin) xfh (Tryz.f87.body.getD .skip):=xbd (ls:=[loopAt Tryz.f87 0]) (by kernel_rfl) (lkC xon lkN)
def xi1 (l:LA):=(Iter (xa8 l (↑l.length:Int)) (0,0,[])).getD (0,[])
def xgS (l:LA):=(xi1 l).fst
def xi6 (l:LA):=xcA (xgS l) (xi1 l).snd
def xiZ (l:LA):=(xi6 l).getD []
def xhH {T:Type} (l:LA) (δ:T) (κ:LA→T):T:=br (decide (24*(↑l.length:Int)≤281474976710656)&&decide ((↑l.length:Int)≤4611686018427387904)) (br ((Iter (xa8 l (↑l.length:Int)) (0,0,[])).isSome) (br ((xi6 l).isSome) (br (decide (0+xgS l≤(xiZ l).length)&&true) (κ (List.take (xgS l) (List.drop 0 (xiZ l)))) δ) δ) δ) δ
def xeE (l:LA):Option (LA):=xhH l none some
theorem xsR (l:LA):Enc (fun (p:LA)=>((AV.list 1 p):AV)) (xeE l) (XF Tryz.prog xfh Tryz.f87 (Tryz.f87.body.getD .skip) [AV.list 1 l,AV.func (88:FuncId) []]):=by
 refine eV (xhH l none (fun (p:LA)=>some ((AV.list 1 p):AV))) (by kernel_rfl) ?_;unfold xeE xhH;repeat' first|exact eN|exact eS rfl|apply eB
def xmE:LA→Option (Bool×AV):=ocOf (sCons (sList 1 pAny) (sCons (sEq (pFunc (88:FuncId) pNil)) sNil)) fun (l,(_,_))=>((xeE l).isSome,(AV.list 1 ((xeE l).getD [])))
theorem xsj:OcOk Tryz.prog ITryz 87 (xmE):=xax fun c f e=>by
 obtain ⟨l,⟨_,_⟩⟩:=c
 obtain ⟨a,b⟩:=Prod.mk.inj e
 refine xaL (p:=xfh.pin) (xaW mxTryz (inv0Ok Tryz.prog _) rfl xo6 Tryz.func87 rfl (by kernel_rfl) xnv ((xsR _ _ (xah (d:=[]) a)).trans ?_))
 exact congrArg some b
def xAU:Env:=xwt.with 87 xmE
theorem xwz:OrcOk Tryz.prog ITryz xAU:=xsX.with xsj
def xhR:Env:=xAU.fn 5 0 (lsOf []) (lpsOf [])
theorem xsm:OrcOk Tryz.prog (ITryz.at 0) xhR:=xwz.fn
theorem xqQ:LoOk Tryz.prog (ITryz.at xhR.pin) xhR (Tryz.f63.body.getD .skip):=xaF (by kernel_rfl)
def xkq {T:Type} (l:LA) (δ:T) (κ:LA→T):T:=br ((xeE l).isSome) (κ ((xeE l).getD [])) δ
def xgv (l:LA):Option (LA):=xkq l none some
theorem xyq (l:LA):Enc (fun (p:LA)=>((AV.list 1 p):AV)) (xgv l) (XF Tryz.prog xhR Tryz.f63 (Tryz.f63.body.getD .skip) [AV.list 1 l]):=by
 refine eV (xkq l none (fun (p:LA)=>some ((AV.list 1 p):AV))) (by kernel_rfl) ?_;unfold xgv xkq;repeat' first|exact eN|exact eS rfl|apply eB
def xqZ:LA→Option (Bool×AV):=ocOf (sCons (sList 1 pAny) sNil) fun (l,_)=>((xgv l).isSome,(AV.list 1 ((xgv l).getD [])))
theorem xyc:OcOk Tryz.prog ITryz 63 (xqZ):=xax fun c f e=>by
 obtain ⟨l,_⟩:=c
 obtain ⟨a,b⟩:=Prod.mk.inj e
 refine xaL (p:=xhR.pin) (xaW mxTryz (inv0Ok Tryz.prog _) rfl xsm Tryz.func63 rfl (by kernel_rfl) xqQ ((xyq _ _ (xah (d:=[]) a)).trans ?_))
 exact congrArg some b
def xD2:Env:=xAU.with 63 xqZ
theorem xDF:OrcOk Tryz.prog ITryz xD2:=xwz.with xyc
abbrev EKV:Env:=xD2
theorem xFo:OrcOk Tryz.prog ITryz EKV:=xDF
end Go.Sim.M
end
noncomputable section
set_option maxRecDepth 100000
namespace Go.Sim.M
open Go.IntKind (i64 u64 u8)
open Go.RowKit Go.Proofs
abbrev xDx:Env:=EKV
theorem xC6:OrcOk Tryz.prog ITryz xDx:=xFo
abbrev xD7:Env:=xDx
theorem xDG:OrcOk Tryz.prog ITryz xD7:=xC6
abbrev xD0:Env:=xD7
theorem xDe:OrcOk Tryz.prog ITryz xD0:=xDG
abbrev xDX:Env:=xD0
theorem xCx:OrcOk Tryz.prog ITryz xDX:=xDe
abbrev xEh:Env:=xDX
theorem xC1:OrcOk Tryz.prog ITryz xEh:=xCx
abbrev xEf:Env:=xEh
theorem xDC:OrcOk Tryz.prog ITryz xEf:=xC1
abbrev xDV:Env:=xEf
theorem xDp:OrcOk Tryz.prog ITryz xDV:=xDC
abbrev xD6:Env:=xDV
theorem xDs:OrcOk Tryz.prog ITryz xD6:=xDp
abbrev xEi:Env:=xD6
theorem xDk:OrcOk Tryz.prog ITryz xEi:=xDs
abbrev xAZ:Env:=xEi
theorem xBc:OrcOk Tryz.prog ITryz xAZ:=xDk
abbrev xyt:Env:=xAZ
theorem xvG:OrcOk Tryz.prog ITryz xyt:=xBc
def xdH:Env:=xyt.fn 19 0 (lsOf []) (lpsOf [])
theorem xor:OrcOk Tryz.prog (ITryz.at 0) xdH:=xvG.fn
theorem xm1:LoOk Tryz.prog (ITryz.at xdH.pin) xdH (Tryz.f62.body.getD .skip):=xaF (by kernel_rfl)
def xe4 (a b t:Int):Bool:=(br (xdT a b) (br (decide (t≥a)) ((decide (t<b))) ((false))) ((false)))
def xkK (a b t:Int):Bool:=true
def xlU {T:Type} (a b t:Int) (δ:T) (κ:Bool→T):T:=br (xdT a b) (br (decide (t≥a)) (κ (decide (t<b))) (κ (false))) (κ (false))
theorem xrq (a b t:Int):Pre (xkK a b t) (XF Tryz.prog xdH Tryz.f62 (Tryz.f62.body.getD .skip) [AV.agg [AV.int .i64 a,AV.int .i64 b],AV.int .i64 t]) (AV.bool (xe4 a b t)):=by
 have h:XF Tryz.prog xdH Tryz.f62 (Tryz.f62.body.getD .skip) [AV.agg [AV.int .i64 a,AV.int .i64 b],AV.int .i64 t]=xlU a b t none (fun (p:Bool)=>some ((AV.bool p):AV)):=by kernel_rfl
 rw [h];unfold xe4 xkK xlU;repeat' (first|exact Pre.none|exact Pre.tt rfl|exact Pre.some rfl|refine Pre.l ?_|refine Pre.r ?_|refine Pre.br (f:=fun (p:Bool)=>((AV.bool p):AV)) ?_ ?_|refine Pre.brt (f:=fun (p:Bool)=>((AV.bool p):AV)) ?_ ?_)
def xlL:LA→Option (Bool×AV):=ocOf (sCons (sAgg (sCons (sEq (pInt .i64)) (sCons (sEq (pInt .i64)) sNil))) (sCons (sEq (pInt .i64)) sNil)) fun ((a,(b,_)),(t,_))=>(true,(AV.bool (xe4 a b t)))
theorem xrA:OcOk Tryz.prog ITryz 62 (xlL):=xax fun b g c=>by
 obtain ⟨⟨d,⟨e,_⟩⟩,⟨t,_⟩⟩:=b
 obtain ⟨f,a⟩:=Prod.mk.inj c
 refine xaL (p:=xdH.pin) (xaW mxTryz (inv0Ok Tryz.prog _) rfl xor Tryz.func62 rfl (by kernel_rfl) xm1 ((Pre.get (xrq _ _ _) rfl).trans ?_))
 exact congrArg some a
def xtA:Env:=xyt.with 62 xlL
theorem xqE:OrcOk Tryz.prog ITryz xtA:=xvG.with xrA
def xfE:Env:=xtA.fn 26 0 (lsOf []) (lpsOf [])
theorem xry:OrcOk Tryz.prog (ITryz.at 0) xfE:=xqE.fn
theorem xn9:LoOk Tryz.prog (ITryz.at xfE.pin) xfE (loopAt Tryz.f28 0):=xaF (by kernel_rfl)
def xfN {T:Type} (t:Int) (d:LA) (e:Int) (b:Nat) (a:Int) (c:LA) (δ:T) (κl:(Nat×Int×LA)→T) (κr:(Nat×LA)→T):T:=br (decide (a<e)) (br (decide (0≤a)&&decide (a<d.length)) (br (decide (a.toNat<d.length)&&((d.getD a.toNat .top).cells.length==3&&hasShs [Sh.list 3,Sh.int .i64,Sh.int .i64] (d.getD a.toNat .top).cells 0)) (br (xe4 ((d.getD a.toNat .top).cells.getD 1 .top).toInt ((d.getD a.toNat .top).cells.getD 2 .top).toInt t) (br (b==c.length&&(decide ((b+1)*24≤140737488355328)&&decide (b+1≤4611686018427387904))) (κl (b+1,i64.wrap (a+1),c++[AV.list 3 ((d.getD a.toNat .top).cells.getD 0 .top).toList])) δ) (κl (b,i64.wrap (a+1),c))) δ) δ) (κr (b,c))
def xb4 (t:Int) (d:LA) (e:Int):(Nat×Int×LA)→Option ((Nat×Int×LA)⊕(Nat×LA)):=fun (b,c,a)=>xfN t d e b c a none (fun s=>some (.inl s)) (fun p=>some (.inr p))
def xey (t:Int) (d:LA) (e:Int):(Nat×Int×LA)→LA×List Box:=fun (b,c,a)=>([AV.int .i64 t,AV.osl 0 0 0 b,AV.list 3 d,AV.int .i64 e,AV.int .i64 c],[⟨0,1,40,a,false,true⟩])
def xdK (t:Int) (a:LA) (b:Int):(Nat×LA)→LR:=fun p=>(.leaf (.exit 0) [AV.osl 0 0 0 p.1] [⟨0,1,40,p.2,false,true⟩])
abbrev xsN (a:LA) (H:List Box):=XR Tryz.prog xfE [1,5,8,9,10] [5] [(5,1,40)] (loopAt Tryz.f28 0) a H
theorem xsW (t:Int) (a:LA) (b:Int) (s:Nat×Int×LA):Enc (encR (xey t a b) (xdK t a b)) (xb4 t a b s) (xsN (xey t a b s).1 (xey t a b s).2):=by
 obtain ⟨d,e,c⟩:=s
 refine eV (xfN t a b d e c none (fun s=>some (encR (xey t a b) (xdK t a b) (.inl s))) (fun p=>some (encR (xey t a b) (xdK t a b) (.inr p)))) (by kernel_rfl) ?_;unfold xb4 xfN;repeat' first|exact eN|exact eS rfl|apply eB
def xlQ:Lp:=lpOf [1,5,8,9,10] [5] [(5,1,40)] (pCons (pInt .i64) (pCons (pOsl 0 0 0) (pCons (pList 3 pAny) (pCons (pInt .i64) (pCons (pInt .i64) pNil))))) (pCons (pBox 0 1 40 false true pAny) pNil) fun (t,(b,(d,(e,(c,_))))) (a,_)=>((Iter (xb4 t d e) (b,c,a)).isSome,xdK t d e ((Iter (xb4 t d e) (b,c,a)).getD (0,[])))
theorem xp9:LoopOk Tryz.prog (ITryz.at xfE.pin) xfE.nt (loopAt Tryz.f28 0) xlQ:=xbr fun g h j i=>by
 obtain ⟨t,⟨b,⟨c,⟨d,⟨e,_⟩⟩⟩⟩⟩:=g
 obtain ⟨a,_⟩:=h
 obtain ⟨f,rfl⟩:=Prod.mk.inj i
 exact xaH mxTryz (inv0Ok Tryz.prog _) rfl xry xn9 (xey t c d) (xdK t c d) (fun p=>by simp only [xdK,LR.eval];first|(simp;done)|(repeat' split<;>simp)) (xsW t c d) (s:=(b,e,a)) (xah f)
def xhc:Env:=xtA.fn 26 0 (lsOf []) (lpsOf [(3,xlQ)])
theorem xrr:OrcOk Tryz.prog (ITryz.at 0) xhc:=xqE.fn
theorem xpZ:LoOk Tryz.prog (ITryz.at xhc.pin) xhc (Tryz.f28.body.getD .skip):=xbd (ls:=[loopAt Tryz.f28 0]) (by kernel_rfl) (lkC xp9 lkN)
def xkZ (l:LA) (t:Int):=(Iter (xb4 t l (↑l.length:Int)) (0,0,[])).getD (0,[])
def xkx (l:LA) (t:Int):=(xkZ l t).snd
def xk1 (l:LA) (t:Int):=(xkZ l t).fst
def xkP (l:LA) (t:Int):=xgv (List.take (xk1 l t) (List.drop 0 (xkx l t)))
def xjr {T:Type} (l:LA) (t:Int) (δ:T) (κ:LA→T):T:=br ((Iter (xb4 t l (↑l.length:Int)) (0,0,[])).isSome) (br (decide (0+xk1 l t≤(xkx l t).length)&&true) (br ((xkP l t).isSome) (κ ((xkP l t).getD [])) δ) δ) δ
def xeL (l:LA) (t:Int):Option (LA):=xjr l t none some
theorem xwb (l:LA) (t:Int):Enc (fun (p:LA)=>((AV.list 1 p):AV)) (xeL l t) (XF Tryz.prog xhc Tryz.f28 (Tryz.f28.body.getD .skip) [AV.list 3 l,AV.int .i64 t]):=by
 refine eV (xjr l t none (fun (p:LA)=>some ((AV.list 1 p):AV))) (by kernel_rfl) ?_;unfold xeL xjr;repeat' first|exact eN|exact eS rfl|apply eB
def xpz:LA→Option (Bool×AV):=ocOf (sCons (sList 3 pAny) (sCons (sEq (pInt .i64)) sNil)) fun (l,(t,_))=>((xeL l t).isSome,(AV.list 1 ((xeL l t).getD [])))
theorem xwl:OcOk Tryz.prog ITryz 28 (xpz):=xax fun c f e=>by
 obtain ⟨l,⟨t,_⟩⟩:=c
 obtain ⟨a,b⟩:=Prod.mk.inj e
 refine xaL (p:=xhc.pin) (xaW mxTryz (inv0Ok Tryz.prog _) rfl xrr Tryz.func28 rfl (by kernel_rfl) xpZ ((xwb _ _ _ (xah (d:=[]) a)).trans ?_))
 exact congrArg some b
def xtZ:Env:=xtA.with 28 xpz
theorem xqA:OrcOk Tryz.prog ITryz xtZ:=xqE.with xwl
def xdF:Env:=xtZ.fn 31 0 (lsOf []) (lpsOf [])
theorem xog:OrcOk Tryz.prog (ITryz.at 0) xdF:=xqA.fn
theorem xl4:LoOk Tryz.prog (ITryz.at xdF.pin) xdF (loopAt Tryz.f38 0):=xaF (by kernel_rfl)
def xdX {T:Type} (e d:LA) (f:Int) (b:Nat) (a:Int) (c:LA) (δ:T) (κl:(Nat×Int×LA)→T) (κr:(Nat×LA)→T):T:=br (decide (a<f)) (br (decide (0≤a)&&decide (a<d.length)) (br (decide (a.toNat<d.length)&&((d.getD a.toNat .top).cells.length==3&&hasShs [Sh.list 3,Sh.int .i64,Sh.int .i64] (d.getD a.toNat .top).cells 0)) (br (xdT ((d.getD a.toNat .top).cells.getD 1 .top).toInt ((d.getD a.toNat .top).cells.getD 2 .top).toInt) (br ((xfy ((d.getD a.toNat .top).cells.getD 0 .top).toList e).isSome) (br ((xfy ((d.getD a.toNat .top).cells.getD 0 .top).toList e).getD false) (br (b==c.length&&(decide ((b+1)*16≤140737488355328)&&decide (b+1≤4611686018427387904))) (κl (b+1,i64.wrap (a+1),c++[AV.agg [AV.int .i64 ((d.getD a.toNat .top).cells.getD 1 .top).toInt,AV.int .i64 ((d.getD a.toNat .top).cells.getD 2 .top).toInt]])) δ) (κl (b,i64.wrap (a+1),c))) δ) (κl (b,i64.wrap (a+1),c))) δ) δ) (κr (b,c))
def xbj (c e:LA) (f:Int):(Nat×Int×LA)→Option ((Nat×Int×LA)⊕(Nat×LA)):=fun (b,d,a)=>xdX c e f b d a none (fun s=>some (.inl s)) (fun p=>some (.inr p))
def xdb (c e:LA) (f:Int):(Nat×Int×LA)→LA×List Box:=fun (b,d,a)=>([AV.list 3 c,AV.osl 0 0 0 b,AV.list 3 e,AV.int .i64 f,AV.int .i64 d],[⟨0,2,31,a,false,true⟩])
def xcL (a b:LA) (c:Int):(Nat×LA)→LR:=fun p=>(.leaf (.exit 0) [AV.osl 0 0 0 p.1] [⟨0,2,31,p.2,false,true⟩])
abbrev xoJ (a:LA) (H:List Box):=XR Tryz.prog xdF [1,5,8,9,10] [5] [(5,2,31)] (loopAt Tryz.f38 0) a H
theorem xoI (a b:LA) (c:Int) (s:Nat×Int×LA):Enc (encR (xdb a b c) (xcL a b c)) (xbj a b c s) (xoJ (xdb a b c s).1 (xdb a b c s).2):=by
 obtain ⟨e,f,d⟩:=s
 refine eV (xdX a b c e f d none (fun s=>some (encR (xdb a b c) (xcL a b c) (.inl s))) (fun p=>some (encR (xdb a b c) (xcL a b c) (.inr p)))) (by kernel_rfl) ?_;unfold xbj xdX;repeat' first|exact eN|exact eS rfl|apply eB
def xjI:Lp:=lpOf [1,5,8,9,10] [5] [(5,2,31)] (pCons (pList 3 pAny) (pCons (pOsl 0 0 0) (pCons (pList 3 pAny) (pCons (pInt .i64) (pCons (pInt .i64) pNil))))) (pCons (pBox 0 2 31 false true pAny) pNil) fun (b,(c,(e,(f,(d,_))))) (a,_)=>((Iter (xbj b e f) (c,d,a)).isSome,xcL b e f ((Iter (xbj b e f) (c,d,a)).getD (0,[])))
theorem xnV:LoopOk Tryz.prog (ITryz.at xdF.pin) xdF.nt (loopAt Tryz.f38 0) xjI:=xbr fun h i k j=>by
 obtain ⟨a,⟨c,⟨d,⟨e,⟨f,_⟩⟩⟩⟩⟩:=h
 obtain ⟨b,_⟩:=i
 obtain ⟨g,rfl⟩:=Prod.mk.inj j
 exact xaH mxTryz (inv0Ok Tryz.prog _) rfl xog xl4 (xdb a d e) (xcL a d e) (fun p=>by simp only [xcL,LR.eval];first|(simp;done)|(repeat' split<;>simp)) (xoI a d e) (s:=(c,f,b)) (xah g)
def xeP:Env:=xtZ.fn 31 0 (lsOf []) (lpsOf [(3,xjI)])
theorem xn3:OrcOk Tryz.prog (ITryz.at 0) xeP:=xqA.fn
theorem xmZ:LoOk Tryz.prog (ITryz.at xeP.pin) xeP (Tryz.f38.body.getD .skip):=xbd (ls:=[loopAt Tryz.f38 0]) (by kernel_rfl) (lkC xnV lkN)
def xiq (l a:LA):=(Iter (xbj a l (↑l.length:Int)) (0,0,[])).getD (0,[])
def xim (l a:LA):=(xiq l a).snd
def xig (l a:LA):=(xiq l a).fst
def xib (l a:LA):=xc3 (List.take (xig l a) (List.drop 0 (xim l a)))
def xgR {T:Type} (l a:LA) (δ:T) (κ:LA→T):T:=br ((Iter (xbj a l (↑l.length:Int)) (0,0,[])).isSome) (br (decide (0+xig l a≤(xim l a).length)&&true) (br ((xib l a).isSome) (κ ((xib l a).getD [])) δ) δ) δ
def xcQ (l a:LA):Option (LA):=xgR l a none some
theorem xrp (l a:LA):Enc (fun (p:LA)=>((AV.list 2 p):AV)) (xcQ l a) (XF Tryz.prog xeP Tryz.f38 (Tryz.f38.body.getD .skip) [AV.list 3 l,AV.list 3 a]):=by
 refine eV (xgR l a none (fun (p:LA)=>some ((AV.list 2 p):AV))) (by kernel_rfl) ?_;unfold xcQ xgR;repeat' first|exact eN|exact eS rfl|apply eB
def xlO:LA→Option (Bool×AV):=ocOf (sCons (sList 3 pAny) (sCons (sList 3 pAny) sNil)) fun (l,(a,_))=>((xcQ l a).isSome,(AV.list 2 ((xcQ l a).getD [])))
theorem xrB:OcOk Tryz.prog ITryz 38 (xlO):=xax fun c g e=>by
 obtain ⟨l,⟨f,_⟩⟩:=c
 obtain ⟨a,b⟩:=Prod.mk.inj e
 refine xaL (p:=xeP.pin) (xaW mxTryz (inv0Ok Tryz.prog _) rfl xn3 Tryz.func38 rfl (by kernel_rfl) xmZ ((xrp _ _ _ (xah (d:=[]) a)).trans ?_))
 exact congrArg some b
def xCE:Env:=xtZ.with 38 xlO
theorem xBP:OrcOk Tryz.prog ITryz xCE:=xqA.with xrB
abbrev EKQ:Env:=xCE
theorem xCe:OrcOk Tryz.prog ITryz EKQ:=xBP
end Go.Sim.M
end
noncomputable section
set_option maxRecDepth 100000
namespace Go.Sim.M
open Go.IntKind (i64 u64 u8)
open Go.RowKit Go.Proofs
def xf5:Env:=EKQ.fn 7 0 (lsOf []) (lpsOf [])
theorem xsL:OrcOk Tryz.prog (ITryz.at 0) xf5:=xCe.fn
theorem xqD:LoOk Tryz.prog (ITryz.at xf5.pin) xf5 (Tryz.f89.body.getD .skip):=xaF (by kernel_rfl)
def xeM (b a:Bool):Int:=(br (b) (((-1))) (br (a) ((1)) ((0))))
def xn8 (b a:Bool):Bool:=true
def xp5 {T:Type} (b a:Bool) (δ:T) (κ:Int→T):T:=br (b) (κ ((-1))) (br (a) (κ (1)) (κ (0)))
theorem xyE (b a:Bool):Pre (xn8 b a) (XF Tryz.prog xf5 Tryz.f89 (Tryz.f89.body.getD .skip) [AV.bool b,AV.bool a]) (AV.int .i64 (xeM b a)):=by
 have h:XF Tryz.prog xf5 Tryz.f89 (Tryz.f89.body.getD .skip) [AV.bool b,AV.bool a]=xp5 b a none (fun (p:Int)=>some ((AV.int .i64 p):AV)):=by kernel_rfl
 rw [h];unfold xeM xn8 xp5;repeat' (first|exact Pre.none|exact Pre.tt rfl|exact Pre.some rfl|refine Pre.l ?_|refine Pre.r ?_|refine Pre.br (f:=fun (p:Int)=>((AV.int .i64 p):AV)) ?_ ?_|refine Pre.brt (f:=fun (p:Int)=>((AV.int .i64 p):AV)) ?_ ?_)
def xqx:LA→Option (Bool×AV):=ocOf (sCons (sEq pBool) (sCons (sEq pBool) sNil)) fun (b,(a,_))=>(true,(AV.int .i64 (xeM b a)))
theorem xwD:OcOk Tryz.prog ITryz 89 (xqx):=xax fun c g d=>by
 obtain ⟨e,⟨a,_⟩⟩:=c
 obtain ⟨f,b⟩:=Prod.mk.inj d
 refine xaL (p:=xf5.pin) (xaW mxTryz (inv0Ok Tryz.prog _) rfl xsL Tryz.func89 rfl (by kernel_rfl) xqD ((Pre.get (xyE _ _) rfl).trans ?_))
 exact congrArg some b
def xyl:Env:=EKQ.with 89 xqx
theorem xvM:OrcOk Tryz.prog ITryz xyl:=xCe.with xwD
def xeC:Env:=xyl.fn 48 0 (lsOf []) (lpsOf [])
theorem xpQ:OrcOk Tryz.prog (ITryz.at 0) xeC:=xvM.fn
theorem xoc:LoOk Tryz.prog (ITryz.at xeC.pin) xeC (Tryz.f64.body.getD .skip):=xaF (by kernel_rfl)
def xeh (a b:Int) (c:List UInt8) (d e:Int) (f:List UInt8):Int:=(br (a != d) ((xeM (decide (a<d)) (decide (a>d)))) (br (b != e) ((xeM (decide (b<e)) (decide (b>e)))) ((xeM (Op.bytesLess c f) !(Op.bytesLess c f || c==f)))))
def xlN (a b:Int) (c:List UInt8) (d e:Int) (f:List UInt8):Bool:=true
def xnj {T:Type} (a b:Int) (c:List UInt8) (d e:Int) (f:List UInt8) (δ:T) (κ:Int→T):T:=br (a != d) (κ (xeM (decide (a<d)) (decide (a>d)))) (br (b != e) (κ (xeM (decide (b<e)) (decide (b>e)))) (κ (xeM (Op.bytesLess c f) !(Op.bytesLess c f || c==f))))
theorem xtK (a b:Int) (c:List UInt8) (d e:Int) (g:List UInt8):Pre (xlN a b c d e g) (XF Tryz.prog xeC Tryz.f64 (Tryz.f64.body.getD .skip) [AV.agg [AV.int .i64 a,AV.int .i64 b,AV.str c],AV.agg [AV.int .i64 d,AV.int .i64 e,AV.str g]]) (AV.int .i64 (xeh a b c d e g)):=by
 have h:XF Tryz.prog xeC Tryz.f64 (Tryz.f64.body.getD .skip) [AV.agg [AV.int .i64 a,AV.int .i64 b,AV.str c],AV.agg [AV.int .i64 d,AV.int .i64 e,AV.str g]]=xnj a b c d e g none (fun (p:Int)=>some ((AV.int .i64 p):AV)):=by kernel_rfl
 rw [h];unfold xeh xlN xnj;repeat' (first|exact Pre.none|exact Pre.tt rfl|exact Pre.some rfl|refine Pre.l ?_|refine Pre.r ?_|refine Pre.br (f:=fun (p:Int)=>((AV.int .i64 p):AV)) ?_ ?_|refine Pre.brt (f:=fun (p:Int)=>((AV.int .i64 p):AV)) ?_ ?_)
def xne:LA→Option (Bool×AV):=ocOf (sCons (sAgg (sCons (sEq (pInt .i64)) (sCons (sEq (pInt .i64)) (sCons (sEq pStr) sNil)))) (sCons (sAgg (sCons (sEq (pInt .i64)) (sCons (sEq (pInt .i64)) (sCons (sEq pStr) sNil)))) sNil)) fun ((a,(b,(c,_))),((d,(e,(f,_))),_))=>(true,(AV.int .i64 (xeh a b c d e f)))
theorem xtY:OcOk Tryz.prog ITryz 64 (xne):=xax fun b k c=>by
 obtain ⟨⟨d,⟨e,⟨f,_⟩⟩⟩,⟨⟨g,⟨h,⟨i,_⟩⟩⟩,_⟩⟩:=b
 obtain ⟨j,a⟩:=Prod.mk.inj c
 refine xaL (p:=xeC.pin) (xaW mxTryz (inv0Ok Tryz.prog _) rfl xpQ Tryz.func64 rfl (by kernel_rfl) xoc ((Pre.get (xtK _ _ _ _ _ _) rfl).trans ?_))
 exact congrArg some a
def xug:Env:=xyl.with 64 xne
theorem xqU:OrcOk Tryz.prog ITryz xug:=xvM.with xtY
def xev:Env:=xug.fn 41 0 (lsOf []) (lpsOf [])
theorem xp0:OrcOk Tryz.prog (ITryz.at 0) xev:=xqU.fn
theorem xmx:LoOk Tryz.prog (ITryz.at xev.pin) xev (loopAt Tryz.f30 0):=xaF (by kernel_rfl)
def xdr (a b:LA) (i:Int):=xeh ((a.getD i.toNat .top).cells.getD 0 .top).toInt ((a.getD i.toNat .top).cells.getD 1 .top).toInt ((a.getD i.toNat .top).cells.getD 2 .top).toStr ((b.getD i.toNat .top).cells.getD 0 .top).toInt ((b.getD i.toNat .top).cells.getD 1 .top).toInt ((b.getD i.toNat .top).cells.getD 2 .top).toStr
def xc0 {T:Type} (a b:LA) (i:Int) (δ:T) (κl:(Int)→T) (κr:(Bool×(Int)×(Unit))→T):T:=br (decide (i<a.length)) (br (decide (i<b.length)) (br (decide (0≤i)&&decide (i<a.length)) (br (decide (i.toNat<a.length)&&((a.getD i.toNat .top).cells.length==3&&hasShs [Sh.int .i64,Sh.int .i64,Sh.str] (a.getD i.toNat .top).cells 0)) (br (decide (0≤i)&&decide (i<b.length)) (br (decide (i.toNat<b.length)&&((b.getD i.toNat .top).cells.length==3&&hasShs [Sh.int .i64,Sh.int .i64,Sh.str] (b.getD i.toNat .top).cells 0)) (br (xdr a b i != 0) (κr (true,(xdr a b i),())) (κl (i64.wrap (i+1)))) δ) δ) δ) δ) (κr (false,0,()))) (κr (false,0,()))
def xaY (a b:LA):(Int)→Option ((Int)⊕(Bool×(Int)×(Unit))):=fun (i)=>xc0 a b i none (fun s=>some (.inl s)) (fun p=>some (.inr p))
def xdM (a b:LA):(Int)→LA×List Box:=fun (i)=>([AV.list 3 a,AV.list 3 b,AV.int .i64 i],[])
def xdd (a b:LA):(Bool×(Int)×(Unit))→LR:=fun p=>(.node p.1 (.leaf .ret [AV.list 3 a,AV.list 3 b,AV.int .i64 p.2.1] []) (.leaf (.exit 0) [AV.list 3 a,AV.list 3 b,.top] []))
abbrev xp7 (a:LA) (H:List Box):=XR Tryz.prog xev [0,1,5] [0,1,4] [] (loopAt Tryz.f30 0) a H
theorem xqc (a b:LA) (i:Int):Enc (encR (xdM a b) (xdd a b)) (xaY a b i) (xp7 (xdM a b i).1 (xdM a b i).2):=by
 refine eV (xc0 a b i none (fun s=>some (encR (xdM a b) (xdd a b) (.inl s))) (fun p=>some (encR (xdM a b) (xdd a b) (.inr p)))) (by kernel_rfl) ?_;unfold xaY xc0;repeat' first|exact eN|exact eS rfl|apply eB
def xkL:Lp:=lpOf [0,1,5] [0,1,4] [] (pCons (pList 3 pAny) (pCons (pList 3 pAny) (pCons (pInt .i64) pNil))) pNil fun (a,(b,(i,_))) _=>((Iter (xaY a b) (i)).isSome,xdd a b ((Iter (xaY a b) (i)).getD (false,0,())))
theorem xo9:LoopOk Tryz.prog (ITryz.at xev.pin) xev.nt (loopAt Tryz.f30 0) xkL:=xbr fun d f g e=>by
 obtain ⟨a,⟨b,⟨i,_⟩⟩⟩:=d
 obtain ⟨c,rfl⟩:=Prod.mk.inj e
 exact xaH mxTryz (inv0Ok Tryz.prog _) rfl xp0 xmx (xdM a b) (xdd a b) (fun p=>by simp only [xdd,LR.eval];first|(simp;done)|(repeat' split<;>simp)) (xqc a b) (s:=(i)) (xah c)
def xfM:Env:=xug.fn 41 0 (lsOf []) (lpsOf [(2,xkL)])
theorem xpF:OrcOk Tryz.prog (ITryz.at 0) xfM:=xqU.fn
theorem xoC:LoOk Tryz.prog (ITryz.at xfM.pin) xfM (Tryz.f30.body.getD .skip):=xbd (ls:=[loopAt Tryz.f30 0]) (by kernel_rfl) (lkC xo9 lkN)
def xh9 {T:Type} (a b:LA) (δ:T) (κ:Int→T):T:=br ((Iter (xaY a b) 0).isSome) (br (((Iter (xaY a b) 0).getD (false,0,())).fst) (κ (((Iter (xaY a b) 0).getD (false,0,())).snd.fst)) (br (decide ((↑a.length:Int)<(↑b.length:Int))) (κ ((-1))) (br (decide ((↑a.length:Int)>(↑b.length:Int))) (κ (1)) (κ (0))))) δ
def xct (a b:LA):Option (Int):=xh9 a b none some
theorem xtC (a b:LA):Enc (fun (p:Int)=>((AV.int .i64 p):AV)) (xct a b) (XF Tryz.prog xfM Tryz.f30 (Tryz.f30.body.getD .skip) [AV.list 3 a,AV.list 3 b]):=by
 refine eV (xh9 a b none (fun (p:Int)=>some ((AV.int .i64 p):AV))) (by kernel_rfl) ?_;unfold xct xh9;repeat' first|exact eN|exact eS rfl|apply eB
def xm6:LA→Option (Bool×AV):=ocOf (sCons (sList 3 pAny) (sCons (sList 3 pAny) sNil)) fun (a,(b,_))=>((xct a b).isSome,(AV.int .i64 ((xct a b).getD 0)))
theorem xtg:OcOk Tryz.prog ITryz 30 (xm6):=xax fun f h g=>by
 obtain ⟨a,⟨b,_⟩⟩:=f
 obtain ⟨c,e⟩:=Prod.mk.inj g
 refine xaL (p:=xfM.pin) (xaW mxTryz (inv0Ok Tryz.prog _) rfl xpF Tryz.func30 rfl (by kernel_rfl) xoC ((xtC _ _ _ (xah (d:=0) c)).trans ?_))
 exact congrArg some e
def xyp:Env:=xug.with 30 xm6
theorem xvd:OrcOk Tryz.prog ITryz xyp:=xqU.with xtg
def xg8:Env:=xyp.fn 9 0 (lsOf []) (lpsOf [])
theorem xrD:OrcOk Tryz.prog (ITryz.at 0) xg8:=xvd.fn
theorem xpY:LoOk Tryz.prog (ITryz.at xg8.pin) xg8 (Tryz.f61.body.getD .skip):=xaF (by kernel_rfl)
def xjs {T:Type} (a b:LA) (δ:T) (κ:Bool→T):T:=br ((xct a b).isSome) (κ ((xct a b).getD 0==0)) δ
def xfu (a b:LA):Option (Bool):=xjs a b none some
theorem xv9 (a b:LA):Enc (fun (p:Bool)=>((AV.bool p):AV)) (xfu a b) (XF Tryz.prog xg8 Tryz.f61 (Tryz.f61.body.getD .skip) [AV.list 3 a,AV.list 3 b]):=by
 refine eV (xjs a b none (fun (p:Bool)=>some ((AV.bool p):AV))) (by kernel_rfl) ?_;unfold xfu xjs;repeat' first|exact eN|exact eS rfl|apply eB
def xpf:LA→Option (Bool×AV):=ocOf (sCons (sList 3 pAny) (sCons (sList 3 pAny) sNil)) fun (a,(b,_))=>((xfu a b).isSome,(AV.bool ((xfu a b).getD false)))
theorem xvW:OcOk Tryz.prog ITryz 61 (xpf):=xax fun f h g=>by
 obtain ⟨a,⟨b,_⟩⟩:=f
 obtain ⟨c,e⟩:=Prod.mk.inj g
 refine xaL (p:=xg8.pin) (xaW mxTryz (inv0Ok Tryz.prog _) rfl xrD Tryz.func61 rfl (by kernel_rfl) xpY ((xv9 _ _ _ (xah (d:=false) c)).trans ?_))
 exact congrArg some e
def xB9:Env:=xyp.with 61 xpf
theorem xBz:OrcOk Tryz.prog ITryz xB9:=xvd.with xvW
abbrev xCk:Env:=xB9
theorem xBC:OrcOk Tryz.prog ITryz xCk:=xBz
abbrev xCc:Env:=xCk
theorem xCF:OrcOk Tryz.prog ITryz xCc:=xBC
abbrev xyI:Env:=xCc
theorem xvB:OrcOk Tryz.prog ITryz xyI:=xCF
def xfB:Env:=xyI.fn 18 0 (lsOf []) (lpsOf [])
theorem xrH:OrcOk Tryz.prog (ITryz.at 0) xfB:=xvB.fn
theorem xpS:LoOk Tryz.prog (ITryz.at xfB.pin) xfB (Tryz.f56.body.getD .skip):=xaF (by kernel_rfl)
def xfA (a b:Int):Bool:=(br (decide (a≥0)) (br (decide (a<b)) ((decide (b≤1099511627776))) ((false))) ((false)))
def xnl (a b:Int):Bool:=true
def xpu {T:Type} (a b:Int) (δ:T) (κ:Bool→T):T:=br (decide (a≥0)) (br (decide (a<b)) (κ (decide (b≤1099511627776))) (κ (false))) (κ (false))
theorem xwd (a b:Int):Pre (xnl a b) (XF Tryz.prog xfB Tryz.f56 (Tryz.f56.body.getD .skip) [AV.agg [AV.int .i64 a,AV.int .i64 b]]) (AV.bool (xfA a b)):=by
 have h:XF Tryz.prog xfB Tryz.f56 (Tryz.f56.body.getD .skip) [AV.agg [AV.int .i64 a,AV.int .i64 b]]=xpu a b none (fun (p:Bool)=>some ((AV.bool p):AV)):=by kernel_rfl
 rw [h];unfold xfA xnl xpu;repeat' (first|exact Pre.none|exact Pre.tt rfl|exact Pre.some rfl|refine Pre.l ?_|refine Pre.r ?_|refine Pre.br (f:=fun (p:Bool)=>((AV.bool p):AV)) ?_ ?_|refine Pre.brt (f:=fun (p:Bool)=>((AV.bool p):AV)) ?_ ?_)
def xps:LA→Option (Bool×AV):=ocOf (sCons (sAgg (sCons (sEq (pInt .i64)) (sCons (sEq (pInt .i64)) sNil))) sNil) fun ((a,(b,_)),_)=>(true,(AV.bool (xfA a b)))
theorem xv5:OcOk Tryz.prog ITryz 56 (xps):=xax fun b g c=>by
 obtain ⟨⟨d,⟨e,_⟩⟩,_⟩:=b
 obtain ⟨f,a⟩:=Prod.mk.inj c
 refine xaL (p:=xfB.pin) (xaW mxTryz (inv0Ok Tryz.prog _) rfl xrH Tryz.func56 rfl (by kernel_rfl) xpS ((Pre.get (xwd _ _) rfl).trans ?_))
 exact congrArg some a
def xwT:Env:=xyI.with 56 xps
theorem xvt:OrcOk Tryz.prog ITryz xwT:=xvB.with xv5
def xd8:Env:=xwT.fn 19 0 (lsOf []) (lpsOf [])
theorem xo5:OrcOk Tryz.prog (ITryz.at 0) xd8:=xvt.fn
theorem xnM:LoOk Tryz.prog (ITryz.at xd8.pin) xd8 (Tryz.f26.body.getD .skip):=xaF (by kernel_rfl)
def xeJ (a b t:Int):Bool:=(br (xfA a b) (br (decide (a≤t)) ((decide (t<b))) ((false))) ((false)))
def xlj (a b t:Int):Bool:=true
def xmC {T:Type} (a b t:Int) (δ:T) (κ:Bool→T):T:=br (xfA a b) (br (decide (a≤t)) (κ (decide (t<b))) (κ (false))) (κ (false))
theorem xsn (a b t:Int):Pre (xlj a b t) (XF Tryz.prog xd8 Tryz.f26 (Tryz.f26.body.getD .skip) [AV.agg [AV.int .i64 a,AV.int .i64 b],AV.int .i64 t]) (AV.bool (xeJ a b t)):=by
 have h:XF Tryz.prog xd8 Tryz.f26 (Tryz.f26.body.getD .skip) [AV.agg [AV.int .i64 a,AV.int .i64 b],AV.int .i64 t]=xmC a b t none (fun (p:Bool)=>some ((AV.bool p):AV)):=by kernel_rfl
 rw [h];unfold xeJ xlj xmC;repeat' (first|exact Pre.none|exact Pre.tt rfl|exact Pre.some rfl|refine Pre.l ?_|refine Pre.r ?_|refine Pre.br (f:=fun (p:Bool)=>((AV.bool p):AV)) ?_ ?_|refine Pre.brt (f:=fun (p:Bool)=>((AV.bool p):AV)) ?_ ?_)
def xmp:LA→Option (Bool×AV):=ocOf (sCons (sAgg (sCons (sEq (pInt .i64)) (sCons (sEq (pInt .i64)) sNil))) (sCons (sEq (pInt .i64)) sNil)) fun ((a,(b,_)),(t,_))=>(true,(AV.bool (xeJ a b t)))
theorem xsF:OcOk Tryz.prog ITryz 26 (xmp):=xax fun b g c=>by
 obtain ⟨⟨d,⟨e,_⟩⟩,⟨t,_⟩⟩:=b
 obtain ⟨f,a⟩:=Prod.mk.inj c
 refine xaL (p:=xd8.pin) (xaW mxTryz (inv0Ok Tryz.prog _) rfl xo5 Tryz.func26 rfl (by kernel_rfl) xnM ((Pre.get (xsn _ _ _) rfl).trans ?_))
 exact congrArg some a
def xCC:Env:=xwT.with 26 xmp
theorem xBB:OrcOk Tryz.prog ITryz xCC:=xvt.with xsF
abbrev xzI:Env:=xCC
theorem xAn:OrcOk Tryz.prog ITryz xzI:=xBB
abbrev xzr:Env:=xzI
theorem xAB:OrcOk Tryz.prog ITryz xzr:=xAn
abbrev xzH:Env:=xzr
theorem xAJ:OrcOk Tryz.prog ITryz xzH:=xAB
abbrev xzp:Env:=xzH
theorem xAV:OrcOk Tryz.prog ITryz xzp:=xAJ
abbrev xuy:Env:=xzp
theorem xtD:OrcOk Tryz.prog ITryz xuy:=xAV
def xf0:Env:=xuy.fn 2 0 (lsOf []) (lpsOf [])
theorem xsu:OrcOk Tryz.prog (ITryz.at 0) xf0:=xtD.fn
theorem xpJ:LoOk Tryz.prog (ITryz.at xf0.pin) xf0 (Tryz.f175.body.getD .skip):=xaF (by kernel_rfl)
def xhD:Int×Int×List UInt8:=((0,0,[]))
def xoo:Bool:=true
def xqq {T:Type} (δ:T) (κ:Int×Int×List UInt8→T):T:=κ (0,0,[])
theorem xyg:Pre (xoo) (XF Tryz.prog xf0 Tryz.f175 (Tryz.f175.body.getD .skip) []) (AV.agg [AV.int .i64 xhD.1,AV.int .i64 xhD.2.1,AV.str xhD.2.2]):=by
 have h:XF Tryz.prog xf0 Tryz.f175 (Tryz.f175.body.getD .skip) []=xqq none (fun (p:Int×Int×List UInt8)=>some ((AV.agg [AV.int .i64 p.1,AV.int .i64 p.2.1,AV.str p.2.2]):AV)):=by kernel_rfl
 rw [h];unfold xhD xoo xqq;repeat' (first|exact Pre.none|exact Pre.tt rfl|exact Pre.some rfl|refine Pre.l ?_|refine Pre.r ?_|refine Pre.br (f:=fun (p:Int×Int×List UInt8)=>((AV.agg [AV.int .i64 p.1,AV.int .i64 p.2.1,AV.str p.2.2]):AV)) ?_ ?_|refine Pre.brt (f:=fun (p:Int×Int×List UInt8)=>((AV.agg [AV.int .i64 p.1,AV.int .i64 p.2.1,AV.str p.2.2]):AV)) ?_ ?_)
def xqd:LA→Option (Bool×AV):=ocOf sNil fun _=>(true,(AV.agg [AV.int .i64 xhD.1,AV.int .i64 xhD.2.1,AV.str xhD.2.2]))
theorem xwU:OcOk Tryz.prog ITryz 175 (xqd):=xax fun d e b=>by
 obtain ⟨c,a⟩:=Prod.mk.inj b
 refine xaL (p:=xf0.pin) (xaW mxTryz (inv0Ok Tryz.prog _) rfl xsu Tryz.func175 rfl (by kernel_rfl) xpJ ((Pre.get (xyg) rfl).trans ?_))
 exact congrArg some a
def xuH:Env:=xuy.with 175 xqd
theorem xud:OrcOk Tryz.prog ITryz xuH:=xtD.with xwU
def xja:Env:=xuH.fn 18 0 (lsOf []) (lpsOf [])
theorem xuY:OrcOk Tryz.prog (ITryz.at 0) xja:=xud.fn
theorem xrI:LoOk Tryz.prog (ITryz.at xja.pin) xja (Tryz.f156.body.getD .skip):=xaF (by kernel_rfl)
def xoV {T:Type} (a:LA) (i:Int) (δ:T) (κ:Int×Int×List UInt8→T):T:=br (decide (i<0)) (κ (0,0,[])) (br (decide (i≥a.length)) (κ (0,0,[])) (br (decide (0≤i)&&decide (i<a.length)) (br (decide (i.toNat<a.length)&&((a.getD i.toNat .top).cells.length==3&&hasShs [Sh.int .i64,Sh.int .i64,Sh.str] (a.getD i.toNat .top).cells 0)) (κ (((a.getD i.toNat .top).cells.getD 0 .top).toInt,((a.getD i.toNat .top).cells.getD 1 .top).toInt,((a.getD i.toNat .top).cells.getD 2 .top).toStr)) δ) δ))
def xgL (a:LA) (i:Int):Option (Int×Int×List UInt8):=xoV a i none some
theorem xAE (a:LA) (i:Int):Enc (fun (p:Int×Int×List UInt8)=>((AV.agg [AV.int .i64 p.1,AV.int .i64 p.2.1,AV.str p.2.2]):AV)) (xgL a i) (XF Tryz.prog xja Tryz.f156 (Tryz.f156.body.getD .skip) [AV.list 3 a,AV.int .i64 i]):=by
 refine eV (xoV a i none (fun (p:Int×Int×List UInt8)=>some ((AV.agg [AV.int .i64 p.1,AV.int .i64 p.2.1,AV.str p.2.2]):AV))) (by kernel_rfl) ?_;unfold xgL xoV;repeat' first|exact eN|exact eS rfl|apply eB
def xti:LA→Option (Bool×AV):=ocOf (sCons (sList 3 pAny) (sCons (sEq (pInt .i64)) sNil)) fun (a,(i,_))=>((xgL a i).isSome,(AV.agg [AV.int .i64 ((xgL a i).getD (0,0,[])).1,AV.int .i64 ((xgL a i).getD (0,0,[])).2.1,AV.str ((xgL a i).getD (0,0,[])).2.2]))
theorem xz3:OcOk Tryz.prog ITryz 156 (xti):=xax fun c g e=>by
 obtain ⟨f,⟨i,_⟩⟩:=c
 obtain ⟨a,b⟩:=Prod.mk.inj e
 refine xaL (p:=xja.pin) (xaW mxTryz (inv0Ok Tryz.prog _) rfl xuY Tryz.func156 rfl (by kernel_rfl) xrI ((xAE _ _ _ (xah (d:=(0,0,[])) a)).trans ?_))
 exact congrArg some b
def xrg:Env:=xuH.with 156 xti
theorem xpb:OrcOk Tryz.prog ITryz xrg:=xud.with xz3
def xe6:Env:=xrg.fn 44 0 (lsOf []) (lpsOf [])
theorem xqW:OrcOk Tryz.prog (ITryz.at 0) xe6:=xpb.fn
theorem xmX:LoOk Tryz.prog (ITryz.at xe6.pin) xe6 (loopAt Tryz.f136 0):=xaF (by kernel_rfl)
def xiw (o:LA) (i:Int):=decide (0≤i)&&decide (i<o.length)
def xlo (b o:LA) (i:Int):=(xgL b ((o.getD i.toNat .top).cells.getD 0 .top).toInt).getD (0,0,[])
def xlk (a o:LA) (i:Int):=(xgL a ((o.getD i.toNat .top).cells.getD 0 .top).toInt).getD (0,0,[])
def xle (b o:LA) (i:Int):=(xlo b o i).snd
def xlu (a o:LA) (i:Int):=(xlk a o i).snd
def xlc (a b o:LA) (i:Int):=xeh (xlk a o i).fst (xlu a o i).fst (xlu a o i).snd (xlo b o i).fst (xle b o i).fst (xle b o i).snd
def xgQ {T:Type} (a b o:LA) (i:Int) (δ:T) (κl:(Int)→T) (κr:(Bool×(Bool)×(Unit))→T):T:=br (decide (i<o.length)) (br (xiw o i) (br (decide (i.toNat<o.length)&&hasSh1 (Sh.int .i64) ((o.getD i.toNat .top).cells.getD 0 .top)) (br ((xgL a ((o.getD i.toNat .top).cells.getD 0 .top).toInt).isSome) (br (xiw o i) (br (decide (i.toNat<o.length)&&hasSh1 (Sh.int .i64) ((o.getD i.toNat .top).cells.getD 0 .top)) (br ((xgL b ((o.getD i.toNat .top).cells.getD 0 .top).toInt).isSome) (br (xlc a b o i != 0) (br (xiw o i) (br (decide (i.toNat<o.length)&&hasSh1 Sh.bool ((o.getD i.toNat .top).cells.getD 1 .top)) (κr (true,(!decide (xlc a b o i<0)==((o.getD i.toNat .top).cells.getD 1 .top).toBool),())) δ) δ) (κl (i64.wrap (i+1)))) δ) δ) δ) δ) δ) δ) (κr (false,false,()))
def xbY (a b o:LA):(Int)→Option ((Int)⊕(Bool×(Bool)×(Unit))):=fun (i)=>xgQ a b o i none (fun s=>some (.inl s)) (fun p=>some (.inr p))
def xd3 (a b o:LA):(Int)→LA×List Box:=fun (i)=>([AV.list 3 a,AV.list 3 b,AV.list 2 o,AV.int .i64 i],[])
def xdt (a b o:LA):(Bool×(Bool)×(Unit))→LR:=fun p=>(.node p.1 (.leaf .ret [AV.list 3 a,AV.list 3 b,AV.bool p.2.1] []) (.leaf (.exit 0) [AV.list 3 a,AV.list 3 b,.top] []))
abbrev xrt (a:LA) (H:List Box):=XR Tryz.prog xe6 [0,1,2,7] [0,1,6] [] (loopAt Tryz.f136 0) a H
theorem xrs (a b o:LA) (i:Int):Enc (encR (xd3 a b o) (xdt a b o)) (xbY a b o i) (xrt (xd3 a b o i).1 (xd3 a b o i).2):=by
 refine eV (xgQ a b o i none (fun s=>some (encR (xd3 a b o) (xdt a b o) (.inl s))) (fun p=>some (encR (xd3 a b o) (xdt a b o) (.inr p)))) (by kernel_rfl) ?_;unfold xbY xgQ;repeat' first|exact eN|exact eS rfl|apply eB
def xlg:Lp:=lpOf [0,1,2,7] [0,1,6] [] (pCons (pList 3 pAny) (pCons (pList 3 pAny) (pCons (pList 2 pAny) (pCons (pInt .i64) pNil)))) pNil fun (a,(b,(o,(i,_)))) _=>((Iter (xbY a b o) (i)).isSome,xdt a b o ((Iter (xbY a b o) (i)).getD (false,false,())))
theorem xpP:LoopOk Tryz.prog (ITryz.at xe6.pin) xe6.nt (loopAt Tryz.f136 0) xlg:=xbr fun d f g e=>by
 obtain ⟨a,⟨b,⟨o,⟨i,_⟩⟩⟩⟩:=d
 obtain ⟨c,rfl⟩:=Prod.mk.inj e
 exact xaH mxTryz (inv0Ok Tryz.prog _) rfl xqW xmX (xd3 a b o) (xdt a b o) (fun p=>by simp only [xdt,LR.eval];first|(simp;done)|(repeat' split<;>simp)) (xrs a b o) (s:=(i)) (xah c)
def xgn:Env:=xrg.fn 44 0 (lsOf []) (lpsOf [(2,xlg)])
theorem xqf:OrcOk Tryz.prog (ITryz.at 0) xgn:=xpb.fn
theorem xoi:LoOk Tryz.prog (ITryz.at xgn.pin) xgn (Tryz.f136.body.getD .skip):=xbd (ls:=[loopAt Tryz.f136 0]) (by kernel_rfl) (lkC xpP lkN)
def xiI {T:Type} (a b o:LA) (δ:T) (κ:Bool→T):T:=br ((Iter (xbY a b o) 0).isSome) (br (((Iter (xbY a b o) 0).getD (false,false,())).fst) (κ (((Iter (xbY a b o) 0).getD (false,false,())).snd.fst)) (br ((xct a b).isSome) (κ (decide ((xct a b).getD 0<0))) δ)) δ
def xdA (a b o:LA):Option (Bool):=xiI a b o none some
theorem xuI (a b o:LA):Enc (fun (p:Bool)=>((AV.bool p):AV)) (xdA a b o) (XF Tryz.prog xgn Tryz.f136 (Tryz.f136.body.getD .skip) [AV.list 3 a,AV.list 3 b,AV.list 2 o]):=by
 refine eV (xiI a b o none (fun (p:Bool)=>some ((AV.bool p):AV))) (by kernel_rfl) ?_;unfold xdA xiI;repeat' first|exact eN|exact eS rfl|apply eB
def xom:LA→Option (Bool×AV):=ocOf (sCons (sList 3 pAny) (sCons (sList 3 pAny) (sCons (sList 2 pAny) sNil))) fun (a,(b,(o,_)))=>((xdA a b o).isSome,(AV.bool ((xdA a b o).getD false)))
theorem xuD:OcOk Tryz.prog ITryz 136 (xom):=xax fun f h g=>by
 obtain ⟨a,⟨b,⟨o,_⟩⟩⟩:=f
 obtain ⟨c,e⟩:=Prod.mk.inj g
 refine xaL (p:=xgn.pin) (xaW mxTryz (inv0Ok Tryz.prog _) rfl xqf Tryz.func136 rfl (by kernel_rfl) xoi ((xuI _ _ _ _ (xah (d:=false) c)).trans ?_))
 exact congrArg some e
def xri:Env:=xrg.with 136 xom
theorem xoZ:OrcOk Tryz.prog ITryz xri:=xpb.with xuD
def xeY:Env:=xri.fn 62 0 (lsOf []) (lpsOf [])
theorem xp2:OrcOk Tryz.prog (ITryz.at 0) xeY:=xoZ.fn
theorem xmW:LoOk Tryz.prog (ITryz.at xeY.pin) xeY (loopAt Tryz.f110 0):=xaF (by kernel_rfl)
def xbD (a:LA) (i:Int):=decide (i.toNat<a.length)&&hasSh1 (Sh.list 3) ((a.getD i.toNat .top).cells.getD 0 .top)
def xbB (b:LA) (k:Int):=decide (k.toNat<b.length)&&hasSh1 (Sh.list 3) ((b.getD k.toNat .top).cells.getD 0 .top)
def xbC (b:LA) (k:Int):=decide (0≤k)&&decide (k<b.length)
def xbE (a:LA) (i:Int):=decide (0≤i)&&decide (i<a.length)
def xcM {T:Type} (a b o:LA) (c:Nat) (i k:Int) (d:LA) (δ:T) (κl:(Nat×Int×Int×LA)→T) (κr:(Nat×LA)→T):T:=br (decide (i<a.length)) (br (i==(↑a.length:Int)) (br (xbC b k) (br (xbB b k) (br (c==d.length&&(decide ((c+1)*24≤140737488355328)&&decide (c+1≤4611686018427387904))) (κl (c+1,i,i64.wrap (k+1),d++[AV.list 3 ((b.getD k.toNat .top).cells.getD 0 .top).toList])) δ) δ) δ) (br (decide (k<b.length)) (br (xbC b k) (br (xbB b k) (br (xbE a i) (br (xbD a i) (br ((xdA ((b.getD k.toNat .top).cells.getD 0 .top).toList ((a.getD i.toNat .top).cells.getD 0 .top).toList o).isSome) (br ((xdA ((b.getD k.toNat .top).cells.getD 0 .top).toList ((a.getD i.toNat .top).cells.getD 0 .top).toList o).getD false) (br (xbC b k) (br (xbB b k) (br (c==d.length&&(decide ((c+1)*24≤140737488355328)&&decide (c+1≤4611686018427387904))) (κl (c+1,i,i64.wrap (k+1),d++[AV.list 3 ((b.getD k.toNat .top).cells.getD 0 .top).toList])) δ) δ) δ) (br (xbE a i) (br (xbD a i) (br (c==d.length&&(decide ((c+1)*24≤140737488355328)&&decide (c+1≤4611686018427387904))) (κl (c+1,i64.wrap (i+1),k,d++[AV.list 3 ((a.getD i.toNat .top).cells.getD 0 .top).toList])) δ) δ) δ)) δ) δ) δ) δ) δ) (br (xbE a i) (br (xbD a i) (br (c==d.length&&(decide ((c+1)*24≤140737488355328)&&decide (c+1≤4611686018427387904))) (κl (c+1,i64.wrap (i+1),k,d++[AV.list 3 ((a.getD i.toNat .top).cells.getD 0 .top).toList])) δ) δ) δ))) (br (decide (k<b.length)) (br (i==(↑a.length:Int)) (br (xbC b k) (br (xbB b k) (br (c==d.length&&(decide ((c+1)*24≤140737488355328)&&decide (c+1≤4611686018427387904))) (κl (c+1,i,i64.wrap (k+1),d++[AV.list 3 ((b.getD k.toNat .top).cells.getD 0 .top).toList])) δ) δ) δ) (br (decide (k<b.length)) (br (xbC b k) (br (xbB b k) (br (xbE a i) (br (xbD a i) (br ((xdA ((b.getD k.toNat .top).cells.getD 0 .top).toList ((a.getD i.toNat .top).cells.getD 0 .top).toList o).isSome) (br ((xdA ((b.getD k.toNat .top).cells.getD 0 .top).toList ((a.getD i.toNat .top).cells.getD 0 .top).toList o).getD false) (br (xbC b k) (br (xbB b k) (br (c==d.length&&(decide ((c+1)*24≤140737488355328)&&decide (c+1≤4611686018427387904))) (κl (c+1,i,i64.wrap (k+1),d++[AV.list 3 ((b.getD k.toNat .top).cells.getD 0 .top).toList])) δ) δ) δ) (br (xbE a i) (br (xbD a i) (br (c==d.length&&(decide ((c+1)*24≤140737488355328)&&decide (c+1≤4611686018427387904))) (κl (c+1,i64.wrap (i+1),k,d++[AV.list 3 ((a.getD i.toNat .top).cells.getD 0 .top).toList])) δ) δ) δ)) δ) δ) δ) δ) δ) (br (xbE a i) (br (xbD a i) (br (c==d.length&&(decide ((c+1)*24≤140737488355328)&&decide (c+1≤4611686018427387904))) (κl (c+1,i64.wrap (i+1),k,d++[AV.list 3 ((a.getD i.toNat .top).cells.getD 0 .top).toList])) δ) δ) δ))) (κr (c,d)))
def xa3 (a b o:LA):(Nat×Int×Int×LA)→Option ((Nat×Int×Int×LA)⊕(Nat×LA)):=fun (d,i,k,c)=>xcM a b o d i k c none (fun s=>some (.inl s)) (fun p=>some (.inr p))
def xea (a b o:LA):(Nat×Int×Int×LA)→LA×List Box:=fun (d,i,k,c)=>([AV.list 1 a,AV.list 1 b,AV.list 2 o,AV.osl 0 0 0 d,AV.int .i64 i,AV.int .i64 k],[⟨0,1,40,c,false,true⟩])
def xdu (a b o:LA):(Nat×LA)→LR:=fun p=>(.leaf (.exit 0) [AV.osl 0 0 0 p.1] [⟨0,1,40,p.2,false,true⟩])
abbrev xrC (a:LA) (H:List Box):=XR Tryz.prog xeY [0,1,2,7,8,9] [7] [(7,1,40)] (loopAt Tryz.f110 0) a H
theorem xrR (a b o:LA) (s:Nat×Int×Int×LA):Enc (encR (xea a b o) (xdu a b o)) (xa3 a b o s) (xrC (xea a b o s).1 (xea a b o s).2):=by
 obtain ⟨d,i,k,c⟩:=s
 refine eV (xcM a b o d i k c none (fun s=>some (encR (xea a b o) (xdu a b o) (.inl s))) (fun p=>some (encR (xea a b o) (xdu a b o) (.inr p)))) (by kernel_rfl) ?_;unfold xa3 xcM;repeat' first|exact eN|exact eS rfl|apply eB
def xlp:Lp:=lpOf [0,1,2,7,8,9] [7] [(7,1,40)] (pCons (pList 1 pAny) (pCons (pList 1 pAny) (pCons (pList 2 pAny) (pCons (pOsl 0 0 0) (pCons (pInt .i64) (pCons (pInt .i64) pNil)))))) (pCons (pBox 0 1 40 false true pAny) pNil) fun (a,(b,(o,(d,(i,(k,_)))))) (c,_)=>((Iter (xa3 a b o) (d,i,k,c)).isSome,xdu a b o ((Iter (xa3 a b o) (d,i,k,c)).getD (0,[])))
theorem xpM:LoopOk Tryz.prog (ITryz.at xeY.pin) xeY.nt (loopAt Tryz.f110 0) xlp:=xbr fun f g j h=>by
 obtain ⟨a,⟨b,⟨o,⟨d,⟨i,⟨k,_⟩⟩⟩⟩⟩⟩:=f
 obtain ⟨c,_⟩:=g
 obtain ⟨e,rfl⟩:=Prod.mk.inj h
 exact xaH mxTryz (inv0Ok Tryz.prog _) rfl xp2 xmW (xea a b o) (xdu a b o) (fun p=>by simp only [xdu,LR.eval];first|(simp;done)|(repeat' split<;>simp)) (xrR a b o) (s:=(d,i,k,c)) (xah e)
def xgG:Env:=xri.fn 62 0 (lsOf []) (lpsOf [(3,xlp)])
theorem xqI:OrcOk Tryz.prog (ITryz.at 0) xgG:=xoZ.fn
theorem xol:LoOk Tryz.prog (ITryz.at xgG.pin) xgG (Tryz.f110.body.getD .skip):=xbd (ls:=[loopAt Tryz.f110 0]) (by kernel_rfl) (lkC xpM lkN)
def xj5 (a b o:LA):=Iter (xa3 a b o) (0,0,0,[])
def xkg (a b o:LA):=(xj5 a b o).getD (0,[])
def xki (a b o:LA):=(xkg a b o).snd
def xj2 (a b o:LA):=(xkg a b o).fst
def xiT {T:Type} (a b o:LA) (δ:T) (κ:LA→T):T:=br ((xj5 a b o).isSome) (br (decide (0+xj2 a b o≤(xki a b o).length)&&true) (κ (List.take (xj2 a b o) (List.drop 0 (xki a b o)))) δ) δ
def xfI (a b o:LA):Option (LA):=xiT a b o none some
theorem xuN (a b o:LA):Enc (fun (p:LA)=>((AV.list 1 p):AV)) (xfI a b o) (XF Tryz.prog xgG Tryz.f110 (Tryz.f110.body.getD .skip) [AV.list 1 a,AV.list 1 b,AV.list 2 o]):=by
 refine eV (xiT a b o none (fun (p:LA)=>some ((AV.list 1 p):AV))) (by kernel_rfl) ?_;unfold xfI xiT;repeat' first|exact eN|exact eS rfl|apply eB
def xoq:LA→Option (Bool×AV):=ocOf (sCons (sList 1 pAny) (sCons (sList 1 pAny) (sCons (sList 2 pAny) sNil))) fun (a,(b,(o,_)))=>((xfI a b o).isSome,(AV.list 1 ((xfI a b o).getD [])))
theorem xuP:OcOk Tryz.prog ITryz 110 (xoq):=xax fun f h g=>by
 obtain ⟨a,⟨b,⟨o,_⟩⟩⟩:=f
 obtain ⟨c,e⟩:=Prod.mk.inj g
 refine xaL (p:=xgG.pin) (xaW mxTryz (inv0Ok Tryz.prog _) rfl xqI Tryz.func110 rfl (by kernel_rfl) xol ((xuN _ _ _ _ (xah (d:=[]) c)).trans ?_))
 exact congrArg some e
def xur:Env:=xri.with 110 xoq
theorem xtm:OrcOk Tryz.prog ITryz xur:=xoZ.with xuP
def xjz (R:LA→LA→Option (LA)):LA→Option (Bool×AV):=ocOf (sCons (sList 1 pAny) (sCons (sList 2 pAny) sNil)) fun (l,(o,_))=>((R l o).isSome,AV.list 1 ((R l o).getD []))
def xg9 (R:LA→LA→Option (LA)):Env:=(xur.with 86 (xjz R)).fn 34 0 (lsOf []) (lpsOf [])
def xi9 (R:LA→LA→Option (LA)):Prop:=OcOk Tryz.prog ITryz 86 (xjz R)
theorem xrT (R:LA→LA→Option (LA)) (a:xi9 R):OrcOk Tryz.prog (ITryz.at 0) (xg9 R):=(xtm.with a).fn
theorem xpL (R:LA→LA→Option (LA)):LoOk Tryz.prog (ITryz.at (xg9 R).pin) (xg9 R) (Tryz.f86.body.getD .skip):=xaF (by kernel_rfl)
def xhl (l:LA):=decide (0≤i64.wrap ((↑l.length:Int).tdiv 2))&&decide (i64.wrap ((↑l.length:Int).tdiv 2)≤(↑l.length:Int))
def xeB (l:LA):Nat:=0+((l.getD 0 .top).cells.getD 0 .top).toList.length
def xhg (R:LA→LA→Option (LA)) (l o:LA):Option (LA):=R (List.take (l.length - (i64.wrap ((↑l.length:Int).tdiv 2)).toNat) (List.drop (i64.wrap ((↑l.length:Int).tdiv 2)).toNat l)) o
def xg6 (R:LA→LA→Option (LA)) (l o:LA):Option (LA):=xfI ((R (List.take ((i64.wrap ((↑l.length:Int).tdiv 2)).toNat - 0) (List.drop 0 l)) o).getD []) ((xhg R l o).getD []) o
def xee {T:Type} (R:LA→LA→Option (LA)) (l o:LA) (δ:T) (κ:LA→T):T:=br ((↑l.length:Int)==0) (κ ([])) (br ((↑l.length:Int)==1) (br (decide (0<(↑l.length:Int))) (br (decide (0<l.length)&&hasSh1 (Sh.list 3) ((l.getD 0 .top).cells.getD 0 .top)) (br (decide (xeB l*32≤140737488355328)&&decide (xeB l≤4611686018427387904)) (br (decide (0+xeB l≤([]++((l.getD 0 .top).cells.getD 0 .top).toList).length)&&true&&true&&true) (κ ([AV.list 3 (List.take (xeB l) (List.drop 0 ([]++((l.getD 0 .top).cells.getD 0 .top).toList)))])) δ) δ) δ) δ) (br (xhl l&&true) (br ((R (List.take ((i64.wrap ((↑l.length:Int).tdiv 2)).toNat - 0) (List.drop 0 l)) o).isSome) (br (xhl l) (br ((xhg R l o).isSome) (br ((xg6 R l o).isSome) (κ ((xg6 R l o).getD [])) δ) δ) δ) δ) δ))
def xcy (R:LA→LA→Option (LA)) (l o:LA):Option (LA):=xee R l o none some
theorem xvS (R:LA→LA→Option (LA)) (l o:LA):Enc (fun (p:LA)=>((AV.list 1 p):AV)) (xcy R l o) (XF Tryz.prog (xg9 R) Tryz.f86 (Tryz.f86.body.getD .skip) [AV.list 1 l,AV.list 2 o]):=by
 refine eV (xee R l o none (fun (p:LA)=>some ((AV.list 1 p):AV))) (by kernel_rfl) ?_;unfold xcy xee;repeat' first|exact eN|exact eS rfl|apply eB
def xvU (R:LA→LA→Option (LA)):LA→Option (Bool×AV):=ocOf (sCons (sList 1 pAny) (sCons (sList 2 pAny) sNil)) fun (l,(o,_))=>((xcy R l o).isSome,(AV.list 1 ((xcy R l o).getD [])))
theorem xwf (R:LA→LA→Option (LA)) (c:xi9 R):OcOk Tryz.prog ITryz 86 (xvU R):=xax fun e g f=>by
 obtain ⟨l,⟨o,_⟩⟩:=e
 obtain ⟨a,b⟩:=Prod.mk.inj f
 refine xaL (p:=(xg9 R).pin) (xaW mxTryz (inv0Ok Tryz.prog _) rfl (xrT R c) Tryz.func86 rfl (by kernel_rfl) (xpL R) ((xvS R _ _ _ (xah (d:=[]) a)).trans ?_))
 exact congrArg some b
def xcs:Nat→LA→LA→Option (LA)
 | 0=>fun _ _=>none
 | fu_+1=>fun l o=>xcy (xcs fu_) l o
theorem xmh:∀ n,xi9 (xcs n)
 | 0=>xax fun _ _ h=>absurd (Prod.mk.inj h).1 Bool.false_ne_true
 | fu_+1=>fun a r h=>xwf (xcs fu_) (xmh fu_) a r h
def xuk:Env:=xur.with 86 (xjz (xcs 1000))
theorem xto:OrcOk Tryz.prog ITryz xuk:=xtm.with (xmh _)
def xhK:Env:=xuk.fn 5 0 (lsOf []) (lpsOf [])
theorem xsD:OrcOk Tryz.prog (ITryz.at 0) xhK:=xto.fn
theorem xra:LoOk Tryz.prog (ITryz.at xhK.pin) xhK (Tryz.f60.body.getD .skip):=xaF (by kernel_rfl)
def xjZ {T:Type} (l:LA) (δ:T) (κ:LA→T):T:=br ((xcs 1000 l []).isSome) (κ ((xcs 1000 l []).getD [])) δ
def xhw (l:LA):Option (LA):=xjZ l none some
theorem xym (l:LA):Enc (fun (p:LA)=>((AV.list 1 p):AV)) (xhw l) (XF Tryz.prog xhK Tryz.f60 (Tryz.f60.body.getD .skip) [AV.list 1 l]):=by
 refine eV (xjZ l none (fun (p:LA)=>some ((AV.list 1 p):AV))) (by kernel_rfl) ?_;unfold xhw xjZ;repeat' first|exact eN|exact eS rfl|apply eB
def xqF:LA→Option (Bool×AV):=ocOf (sCons (sList 1 pAny) sNil) fun (l,_)=>((xhw l).isSome,(AV.list 1 ((xhw l).getD [])))
theorem xwZ:OcOk Tryz.prog ITryz 60 (xqF):=xax fun c f e=>by
 obtain ⟨l,_⟩:=c
 obtain ⟨a,b⟩:=Prod.mk.inj e
 refine xaL (p:=xhK.pin) (xaW mxTryz (inv0Ok Tryz.prog _) rfl xsD Tryz.func60 rfl (by kernel_rfl) xra ((xym _ _ (xah (d:=[]) a)).trans ?_))
 exact congrArg some b
def xzu:Env:=xuk.with 60 xqF
theorem xzW:OrcOk Tryz.prog ITryz xzu:=xto.with xwZ
abbrev xzJ:Env:=xzu
theorem xAv:OrcOk Tryz.prog ITryz xzJ:=xzW
abbrev xzy:Env:=xzJ
theorem xAe:OrcOk Tryz.prog ITryz xzy:=xAv
abbrev EKR1:Env:=xzy
theorem xEZ:OrcOk Tryz.prog ITryz EKR1:=xAe
end Go.Sim.M
end
noncomputable section
set_option maxRecDepth 100000
namespace Go.Sim.M
open Go.IntKind (i64 u64 u8)
open Go.RowKit Go.Proofs
abbrev xEb:Env:=EKR1
theorem xCY:OrcOk Tryz.prog ITryz xEb:=xEZ
abbrev EKJ:Env:=xEb
theorem xtb:OrcOk Tryz.prog ITryz EKJ:=xCY
end Go.Sim.M
end
noncomputable section
set_option maxRecDepth 100000
namespace Go.Sim.M
open Go.IntKind (i64 u64 u8)
open Go.RowKit Go.Proofs
def xfa:Env:=EKJ.fn 58 0 (lsOf []) (lpsOf [])
theorem xrc:OrcOk Tryz.prog (ITryz.at 0) xfa:=xtb.fn
theorem xnZ:LoOk Tryz.prog (ITryz.at xfa.pin) xfa (loopAt Tryz.f57 0):=xaF (by kernel_rfl)
def xd6 {T:Type} (l:LA) (n:Int) (a:Nat) (i:Int) (b:LA) (δ:T) (κl:(Nat×Int×LA)→T) (κr:(Nat×Int×LA)→T):T:=br (decide (i<l.length)) (br (decide (0≤i)&&decide (i<l.length)) (br (decide (i.toNat<l.length)&&hasSh1 (Sh.int .i64) ((l.getD i.toNat .top).cells.getD 0 .top)) (br (decide (((l.getD i.toNat .top).cells.getD 0 .top).toInt<n)) (br (decide (0≤i)&&decide (i<l.length)) (br (decide (i.toNat<l.length)&&hasSh1 (Sh.int .i64) ((l.getD i.toNat .top).cells.getD 0 .top)) (br (a==b.length&&(decide ((a+1)*8≤140737488355328)&&decide (a+1≤4611686018427387904))) (κl (a+1,i64.wrap (i+1),b++[AV.int .i64 ((l.getD i.toNat .top).cells.getD 0 .top).toInt])) δ) δ) δ) (κr (a,i,b))) δ) δ) (κr (a,i,b))
def xbt (l:LA) (n:Int):(Nat×Int×LA)→Option ((Nat×Int×LA)⊕(Nat×Int×LA)):=fun (b,i,a)=>xd6 l n b i a none (fun s=>some (.inl s)) (fun p=>some (.inr p))
def xd9 (l:LA) (n:Int):(Nat×Int×LA)→LA×List Box:=fun (b,i,a)=>([AV.list 1 l,AV.int .i64 n,AV.osl 0 0 0 b,AV.int .i64 i],[⟨0,1,3,a,false,true⟩])
def xdz (l:LA) (n:Int):(Nat×Int×LA)→LR:=fun p=>(.leaf (.exit 0) [AV.list 1 l,AV.int .i64 n,AV.osl 0 0 0 p.1,AV.int .i64 p.2.1] [⟨0,1,3,p.2.2,false,true⟩])
abbrev xrM (a:LA) (H:List Box):=XR Tryz.prog xfa [0,1,5,6] [0,1,5,6] [(5,1,3)] (loopAt Tryz.f57 0) a H
theorem xrK (l:LA) (n:Int) (s:Nat×Int×LA):Enc (encR (xd9 l n) (xdz l n)) (xbt l n s) (xrM (xd9 l n s).1 (xd9 l n s).2):=by
 obtain ⟨b,i,a⟩:=s
 refine eV (xd6 l n b i a none (fun s=>some (encR (xd9 l n) (xdz l n) (.inl s))) (fun p=>some (encR (xd9 l n) (xdz l n) (.inr p)))) (by kernel_rfl) ?_;unfold xbt xd6;repeat' first|exact eN|exact eS rfl|apply eB
def xiB:Lp:=lpOf [0,1,5,6] [0,1,5,6] [(5,1,3)] (pCons (pList 1 pAny) (pCons (pInt .i64) (pCons (pOsl 0 0 0) (pCons (pInt .i64) pNil)))) (pCons (pBox 0 1 3 false true pAny) pNil) fun (l,(n,(b,(i,_)))) (a,_)=>((Iter (xbt l n) (b,i,a)).isSome,xdz l n ((Iter (xbt l n) (b,i,a)).getD (0,0,[])))
theorem xpT:LoopOk Tryz.prog (ITryz.at xfa.pin) xfa.nt (loopAt Tryz.f57 0) xiB:=xbr fun d e g f=>by
 obtain ⟨l,⟨n,⟨b,⟨i,_⟩⟩⟩⟩:=d
 obtain ⟨a,_⟩:=e
 obtain ⟨c,rfl⟩:=Prod.mk.inj f
 exact xaH mxTryz (inv0Ok Tryz.prog _) rfl xrc xnZ (xd9 l n) (xdz l n) (fun p=>by simp only [xdz,LR.eval];first|(simp;done)|(repeat' split<;>simp)) (xrK l n) (s:=(b,i,a)) (xah c)
def xe9:Env:=EKJ.fn 58 0 (lsOf []) (lpsOf [(3,xiB)])
theorem xq1:OrcOk Tryz.prog (ITryz.at 0) xe9:=xtb.fn
theorem xnR:LoOk Tryz.prog (ITryz.at xe9.pin) xe9 (loopAt Tryz.f57 1):=xaF (by kernel_rfl)
def xfg {T:Type} (l:LA) (a:Nat) (i:Int) (b:LA) (δ:T) (κl:(Nat×Int×LA)→T) (κr:(Nat×LA)→T):T:=br (decide (i<l.length)) (br (decide (0≤i)&&decide (i<l.length)) (br (decide (i.toNat<l.length)&&hasSh1 (Sh.int .i64) ((l.getD i.toNat .top).cells.getD 0 .top)) (br (a==b.length&&(decide ((a+1)*8≤140737488355328)&&decide (a+1≤4611686018427387904))) (κl (a+1,i64.wrap (i+1),b++[AV.int .i64 ((l.getD i.toNat .top).cells.getD 0 .top).toInt])) δ) δ) δ) (κr (a,b))
def xbu (l:LA):(Nat×Int×LA)→Option ((Nat×Int×LA)⊕(Nat×LA)):=fun (b,i,a)=>xfg l b i a none (fun s=>some (.inl s)) (fun p=>some (.inr p))
def xd2 (l:LA):(Nat×Int×LA)→LA×List Box:=fun (b,i,a)=>([AV.list 1 l,AV.osl 0 0 0 b,AV.int .i64 i],[⟨0,1,3,a,false,true⟩])
def xdw (l:LA):(Nat×LA)→LR:=fun p=>(.leaf (.exit 2) [AV.osl 0 0 0 p.1] [⟨0,1,3,p.2,false,true⟩])
abbrev xru (a:LA) (H:List Box):=XR Tryz.prog xe9 [0,5,6] [5] [(5,1,3)] (loopAt Tryz.f57 1) a H
theorem xrz (l:LA) (s:Nat×Int×LA):Enc (encR (xd2 l) (xdw l)) (xbu l s) (xru (xd2 l s).1 (xd2 l s).2):=by
 obtain ⟨b,i,a⟩:=s
 refine eV (xfg l b i a none (fun s=>some (encR (xd2 l) (xdw l) (.inl s))) (fun p=>some (encR (xd2 l) (xdw l) (.inr p)))) (by kernel_rfl) ?_;unfold xbu xfg;repeat' first|exact eN|exact eS rfl|apply eB
def xli:Lp:=lpOf [0,5,6] [5] [(5,1,3)] (pCons (pList 1 pAny) (pCons (pOsl 0 0 0) (pCons (pInt .i64) pNil))) (pCons (pBox 0 1 3 false true pAny) pNil) fun (l,(b,(i,_))) (a,_)=>((Iter (xbu l) (b,i,a)).isSome,xdw l ((Iter (xbu l) (b,i,a)).getD (0,[])))
theorem xpH:LoopOk Tryz.prog (ITryz.at xe9.pin) xe9.nt (loopAt Tryz.f57 1) xli:=xbr fun d e g f=>by
 obtain ⟨l,⟨b,⟨i,_⟩⟩⟩:=d
 obtain ⟨a,_⟩:=e
 obtain ⟨c,rfl⟩:=Prod.mk.inj f
 exact xaH mxTryz (inv0Ok Tryz.prog _) rfl xq1 xnR (xd2 l) (xdw l) (fun p=>by simp only [xdw,LR.eval];first|(simp;done)|(repeat' split<;>simp)) (xrz l) (s:=(b,i,a)) (xah c)
def xgk:Env:=EKJ.fn 58 0 (lsOf []) (lpsOf [(3,xiB),(8,xli)])
theorem xqO:OrcOk Tryz.prog (ITryz.at 0) xgk:=xtb.fn
theorem xo4:LoOk Tryz.prog (ITryz.at xgk.pin) xgk (Tryz.f57.body.getD .skip):=xbd (ls:=[loopAt Tryz.f57 0,loopAt Tryz.f57 1]) (by kernel_rfl) (lkC xpT (lkC xpH lkN))
def xfJ (l:LA) (n:Int):=(Iter (xbt l n) (0,0,[])).getD (0,0,[])
def xeu (l:LA) (n:Int):=(xfJ l n).fst
def xfG (l:LA) (n:Int):=(xfJ l n).snd
def xck (l:LA) (n:Int):=(xfG l n).fst
def xcY (l:LA) (n:Int):=xeu l n+1
def xeD (l:LA) (n:Int):=(xfG l n).snd
def xgp (l:LA) (n:Int):=Iter (xbu l) (xcY l n,xck l n,xeD l n++[AV.int .i64 n])
def xgg (l:LA) (n:Int):=Iter (xbu l) (xeu l n,xck l n,xeD l n)
def xfO (l:LA) (n:Int):=xeu l n==(xeD l n).length
def xgt (l:LA) (n:Int):=(xgp l n).getD (0,[])
def xgo (l:LA) (n:Int):=(xgp l n).isSome
def xgH (l:LA) (n:Int):=(xgg l n).getD (0,[])
def xdx (l:LA) (n:Int):=(xgt l n).fst
def xdQ (l:LA) (n:Int):=(xgt l n).snd
def xgA (l:LA) (n:Int):=(xgH l n).fst
def xgf (l:LA) (n:Int):=(xgH l n).snd
def xiS {T:Type} (l:LA) (n:Int) (δ:T) (κ:LA→T):T:=br ((Iter (xbt l n) (0,0,[])).isSome) (br (xck l n==(↑l.length:Int)) (br (xfO l n&&(decide (xcY l n*8≤140737488355328)&&decide (xcY l n≤4611686018427387904))) (br (xgo l n) (br (decide (0+xdx l n≤(xdQ l n).length)&&true) (κ (List.take (xdx l n) (List.drop 0 (xdQ l n)))) δ) δ) δ) (br (decide (0≤xck l n)&&decide (xck l n<l.length)) (br (decide ((xck l n).toNat<l.length)&&hasSh1 (Sh.int .i64) ((l.getD (xck l n).toNat .top).cells.getD 0 .top)) (br (decide (((l.getD (xck l n).toNat .top).cells.getD 0 .top).toInt>n)) (br (xfO l n&&(decide (xcY l n*8≤140737488355328)&&decide (xcY l n≤4611686018427387904))) (br (xgo l n) (br (decide (0+xdx l n≤(xdQ l n).length)&&true) (κ (List.take (xdx l n) (List.drop 0 (xdQ l n)))) δ) δ) δ) (br ((xgg l n).isSome) (br (decide (0+xgA l n≤(xgf l n).length)&&true) (κ (List.take (xgA l n) (List.drop 0 (xgf l n)))) δ) δ)) δ) δ)) δ
def xc2 (l:LA) (n:Int):Option (LA):=xiS l n none some
theorem xuz (l:LA) (n:Int):Enc (fun (p:LA)=>((AV.list 1 p):AV)) (xc2 l n) (XF Tryz.prog xgk Tryz.f57 (Tryz.f57.body.getD .skip) [AV.list 1 l,AV.int .i64 n]):=by
 refine eV (xiS l n none (fun (p:LA)=>some ((AV.list 1 p):AV))) (by kernel_rfl) ?_;unfold xc2 xiS;repeat' first|exact eN|exact eS rfl|apply eB
def xoj:LA→Option (Bool×AV):=ocOf (sCons (sList 1 pAny) (sCons (sEq (pInt .i64)) sNil)) fun (l,(n,_))=>((xc2 l n).isSome,(AV.list 1 ((xc2 l n).getD [])))
theorem xuF:OcOk Tryz.prog ITryz 57 (xoj):=xax fun c f e=>by
 obtain ⟨l,⟨n,_⟩⟩:=c
 obtain ⟨a,b⟩:=Prod.mk.inj e
 refine xaL (p:=xgk.pin) (xaW mxTryz (inv0Ok Tryz.prog _) rfl xqO Tryz.func57 rfl (by kernel_rfl) xo4 ((xuz _ _ _ (xah (d:=[]) a)).trans ?_))
 exact congrArg some b
def xCu:Env:=EKJ.with 57 xoj
theorem xBb:OrcOk Tryz.prog ITryz xCu:=xtb.with xuF
abbrev xwE:Env:=xCu
theorem xve:OrcOk Tryz.prog ITryz xwE:=xBb
def xic:Env:=xwE.fn 28 1 (lsOf []) (lpsOf [])
theorem xtI:OrcOk Tryz.prog (ITryz.at 1) xic:=xve.fn
theorem xrS:LoOk Tryz.prog (ITryz.at xic.pin) xic (Tryz.f90.body.getD .skip):=xaF (by kernel_rfl)
def xhU {T:Type} (k:Nat) (b n:Int) (a:LA) (δ:T) (κ:Bool×(Nat×LA)×(Nat×LA)→T):T:=br (decide ((↑k:Int)>0)) (br (decide (0≤i64.wrap ((↑k:Int) - 1))&&decide (i64.wrap ((↑k:Int) - 1)<(↑k:Int))) (br (decide (0+(i64.wrap ((↑k:Int) - 1)).toNat<a.length)&&hasSh1 (Sh.int .i64) ((a.getD (0+(i64.wrap ((↑k:Int) - 1)).toNat) .top).cells.getD 1 .top)) (br (((a.getD (0+(i64.wrap ((↑k:Int) - 1)).toNat) .top).cells.getD 1 .top).toInt==n) (κ (true,(k,a),(0,[]))) (br (k==a.length&&(decide ((k+1)*16≤140737488355328)&&decide (k+1≤4611686018427387904))) (κ (false,(0,[]),(k+1,a++[AV.agg [AV.int .i64 b,AV.int .i64 n]]))) δ)) δ) δ) (br (k==a.length&&(decide ((k+1)*16≤140737488355328)&&decide (k+1≤4611686018427387904))) (κ (false,(0,[]),(k+1,a++[AV.agg [AV.int .i64 b,AV.int .i64 n]]))) δ)
def xcZ (k:Nat) (a n:Int) (b:LA):Option (Bool×(Nat×LA)×(Nat×LA)):=xhU k a n b none some
theorem xzm (k:Nat) (a n:Int) (xs:LA):Enc (fun (p:Bool×(Nat×LA)×(Nat×LA))=>((br p.1 ((AV.osl 0 0 0 p.2.1.1,([⟨0,2,75,p.2.1.2,false,true⟩]:List Box))) ((AV.osl 0 1 0 p.2.2.1,([⟨1,2,75,p.2.2.2,false,true⟩]:List Box)))):(AV×List Box))) (xcZ k a n xs) (XFM Tryz.prog xic Tryz.f90 (Tryz.f90.body.getD .skip) [AV.osl (0:Id) 0 0 k,AV.int .i64 a,AV.int .i64 n] [{ ver:=0,sz:=2,ty:=(75:TypeId),xs:=xs,frz:=false,pm:=true }]):=by
 refine eV (xhU k a n xs none (fun (p:Bool×(Nat×LA)×(Nat×LA))=>some ((br p.1 ((AV.osl 0 0 0 p.2.1.1,([⟨0,2,75,p.2.1.2,false,true⟩]:List Box))) ((AV.osl 0 1 0 p.2.2.1,([⟨1,2,75,p.2.2.2,false,true⟩]:List Box)))):(AV×List Box)))) (by kernel_rfl) ?_;unfold xcZ xhU;repeat' first|exact eN|exact eS rfl|apply eB
def xrV:LA→List Box→Option (Bool×AV×List Box):=omOf (sCons (sEq (pOsl 0 0 0)) (sCons (sEq (pInt .i64)) (sCons (sEq (pInt .i64)) sNil))) (pCons (pBox 0 2 (75:TypeId) false true pAny) pNil) fun (k,(a,(n,_))) (b,_)=>((xcZ k a n b).isSome,(AV.osl 0 1 0 (br ((xcZ k a n b).getD (false,(0,[]),(0,[]))).1 ((xcZ k a n b).getD (false,(0,[]),(0,[]))).2.1.1 ((xcZ k a n b).getD (false,(0,[]),(0,[]))).2.2.1),([⟨1,2,75,(br ((xcZ k a n b).getD (false,(0,[]),(0,[]))).1 ((xcZ k a n b).getD (false,(0,[]),(0,[]))).2.1.2 ((xcZ k a n b).getD (false,(0,[]),(0,[]))).2.2.2),false,true⟩]:List Box)))
theorem xyZ:OmOk Tryz.prog ITryz 90 (xrV):=xhZ fun e f j i g=>by
 obtain ⟨k,⟨b,⟨n,_⟩⟩⟩:=e
 obtain ⟨h,_⟩:=f
 obtain ⟨c,a⟩:=Prod.mk.inj g
 have hx:=xzm _ _ _ _ _ (xah (d:=(false,(0,[]),(0,[]))) c)
 revert hx a
 generalize ((xcZ k b n h).getD (false,(0,[]),(0,[])))=p
 intro a hx
 obtain ⟨rfl,rfl⟩:=Prod.mk.inj a
 obtain ⟨t,⟨l,m⟩,o,q⟩:=p
 have hg:GoodM Tryz.prog ITryz 90 _ _ _ _:=xfw (p:=xic.pin) (xge mxTryz (inv0Ok Tryz.prog _) rfl xtI rfl Tryz.func90 rfl (by kernel_rfl) xrS hx)
 cases t
 · exact hg
 · exact GoodM.bump1 rfl (by decide) hg
def xoD:Env:=xwE.withM 90 xrV
theorem xld:OrcOk Tryz.prog ITryz xoD:=xve.withM xyZ
def xhW:Env:=xoD.fn 82 0 (lsOf []) (lpsOf [])
theorem xu5:OrcOk Tryz.prog (ITryz.at 0) xhW:=xld.fn
theorem xqj:LoOk Tryz.prog (ITryz.at xhW.pin) xhW (loopAt Tryz.f66 0):=xaF (by kernel_rfl)
def xg7 (l:LA) (i:Int):=decide (0≤i)&&decide (i<l.length)
def xhJ {T:Type} (l a:LA) (i:Int) (δ:T) (κl:(LA×Int)→T) (κr:(LA)→T):T:=br (decide (i<l.length)) (br (xg7 l i) (br (decide (i.toNat<l.length)&&((l.getD i.toNat .top).cells.length==3&&hasShs [Sh.int .i64,Sh.int .i64] (l.getD i.toNat .top).cells 0)) (br (xfA ((l.getD i.toNat .top).cells.getD 0 .top).toInt ((l.getD i.toNat .top).cells.getD 1 .top).toInt) (br (xg7 l i) (br (decide (i.toNat<l.length)&&hasSh1 (Sh.int .i64) ((l.getD i.toNat .top).cells.getD 0 .top)) (br ((xc2 a ((l.getD i.toNat .top).cells.getD 0 .top).toInt).isSome) (br (xg7 l i) (br (decide (i.toNat<l.length)&&hasSh1 (Sh.int .i64) ((l.getD i.toNat .top).cells.getD 1 .top)) (br ((xc2 ((xc2 a ((l.getD i.toNat .top).cells.getD 0 .top).toInt).getD []) ((l.getD i.toNat .top).cells.getD 1 .top).toInt).isSome) (κl ((xc2 ((xc2 a ((l.getD i.toNat .top).cells.getD 0 .top).toInt).getD []) ((l.getD i.toNat .top).cells.getD 1 .top).toInt).getD [],i64.wrap (i+1))) δ) δ) δ) δ) δ) δ) (κl (a,i64.wrap (i+1)))) δ) δ) (κr (a))
def xcE (l:LA):(LA×Int)→Option ((LA×Int)⊕(LA)):=fun (a,i)=>xhJ l a i none (fun s=>some (.inl s)) (fun p=>some (.inr p))
def xf2 (l:LA):(LA×Int)→LA×List Box:=fun (a,i)=>([AV.list 3 l,AV.list 1 a,AV.int .i64 i],[])
def xeV (l:LA):(LA)→LR:=fun p=>(.leaf (.exit 0) [AV.list 3 l,AV.list 1 p] [])
abbrev xwp (a:LA) (H:List Box):=XR Tryz.prog xhW [0,3,4] [0,3] [(3,1,1073741824)] (loopAt Tryz.f66 0) a H
theorem xwk (l:LA) (s:LA×Int):Enc (encR (xf2 l) (xeV l)) (xcE l s) (xwp (xf2 l s).1 (xf2 l s).2):=by
 obtain ⟨a,i⟩:=s
 refine eV (xhJ l a i none (fun s=>some (encR (xf2 l) (xeV l) (.inl s))) (fun p=>some (encR (xf2 l) (xeV l) (.inr p)))) (by kernel_rfl) ?_;unfold xcE xhJ;repeat' first|exact eN|exact eS rfl|apply eB
def xiG:Lp:=lpOf [0,3,4] [0,3] [(3,1,1073741824)] (pCons (pList 3 pAny) (pCons (pList 1 pAny) (pCons (pInt .i64) pNil))) pNil fun (l,(a,(i,_))) _=>((Iter (xcE l) (a,i)).isSome,xeV l ((Iter (xcE l) (a,i)).getD []))
theorem xt3:LoopOk Tryz.prog (ITryz.at xhW.pin) xhW.nt (loopAt Tryz.f66 0) xiG:=xbr fun b e f c=>by
 obtain ⟨l,⟨d,⟨i,_⟩⟩⟩:=b
 obtain ⟨a,rfl⟩:=Prod.mk.inj c
 exact xaH mxTryz (inv0Ok Tryz.prog _) rfl xu5 xqj (xf2 l) (xeV l) (fun p=>by simp only [xeV,LR.eval];first|(simp;done)|(repeat' split<;>simp)) (xwk l) (s:=(d,i)) (xah a)
def xh2:Env:=xoD.fn 82 0 (lsOf []) (lpsOf [(3,xiG)])
theorem xuS:OrcOk Tryz.prog (ITryz.at 0) xh2:=xld.fn
theorem xqa:LoOk Tryz.prog (ITryz.at xh2.pin) xh2 (loopAt Tryz.f66 2):=xaF (by kernel_rfl)
def xhP {T:Type} (l b:LA) (c:Nat) (k n i:Int) (a:LA) (δ:T) (κl:(Int×Int×LA)→T) (κr:(Int×LA)→T):T:=br (decide (i<l.length)) (br (decide (0≤i)&&decide (i<l.length)) (br (decide (i.toNat<l.length)&&((l.getD i.toNat .top).cells.length==3&&hasShs [Sh.int .i64,Sh.int .i64] (l.getD i.toNat .top).cells 0)) (br (decide (0≤k)&&decide (k<b.length)) (br (decide (k.toNat<b.length)&&hasSh1 (Sh.int .i64) ((b.getD k.toNat .top).cells.getD 0 .top)) (br (xeJ ((l.getD i.toNat .top).cells.getD 0 .top).toInt ((l.getD i.toNat .top).cells.getD 1 .top).toInt ((b.getD k.toNat .top).cells.getD 0 .top).toInt) (br (decide (0≤i)&&decide (i<l.length)) (br (decide (i.toNat<l.length)&&hasSh1 (Sh.int .i64) ((l.getD i.toNat .top).cells.getD 2 .top)) (κl (i64.wrap (n+((l.getD i.toNat .top).cells.getD 2 .top).toInt),i64.wrap (i+1),a)) δ) δ) (κl (n,i64.wrap (i+1),a))) δ) δ) δ) δ) (κr (n,a))
def xcH (l c:LA) (b:Nat) (k:Int):(Int×Int×LA)→Option ((Int×Int×LA)⊕(Int×LA)):=fun (n,i,a)=>xhP l c b k n i a none (fun s=>some (.inl s)) (fun p=>some (.inr p))
def xgb (l c:LA) (b:Nat) (k:Int):(Int×Int×LA)→LA×List Box:=fun (n,i,a)=>([AV.list 3 l,AV.list 1 c,AV.osl 0 0 0 b,AV.int .i64 k,AV.int .i64 n,AV.int .i64 i],[⟨0,2,75,a,false,true⟩])
def xe3 (l b:LA) (a:Nat) (k:Int):(Int×LA)→LR:=fun p=>(.leaf (.exit 4) [AV.list 3 l,AV.list 1 b,AV.osl 0 0 0 a,AV.int .i64 k,AV.int .i64 p.1] [⟨0,2,75,p.2,false,true⟩])
abbrev xv7 (a:LA) (H:List Box):=XR Tryz.prog xh2 [0,3,5,6,7,8] [0,3,5,6,7] [(5,2,75),(3,1,1073741824)] (loopAt Tryz.f66 2) a H
theorem xvX (l b:LA) (a:Nat) (k:Int) (s:Int×Int×LA):Enc (encR (xgb l b a k) (xe3 l b a k)) (xcH l b a k s) (xv7 (xgb l b a k s).1 (xgb l b a k s).2):=by
 obtain ⟨n,i,c⟩:=s
 refine eV (xhP l b a k n i c none (fun s=>some (encR (xgb l b a k) (xe3 l b a k) (.inl s))) (fun p=>some (encR (xgb l b a k) (xe3 l b a k) (.inr p)))) (by kernel_rfl) ?_;unfold xcH xhP;repeat' first|exact eN|exact eS rfl|apply eB
def xkM:Lp:=lpOf [0,3,5,6,7,8] [0,3,5,6,7] [(5,2,75),(3,1,1073741824)] (pCons (pList 3 pAny) (pCons (pList 1 pAny) (pCons (pOsl 0 0 0) (pCons (pInt .i64) (pCons (pInt .i64) (pCons (pInt .i64) pNil)))))) (pCons (pBox 0 2 75 false true pAny) pNil) fun (l,(c,(a,(k,(n,(i,_)))))) (b,_)=>((Iter (xcH l c a k) (n,i,b)).isSome,xe3 l c a k ((Iter (xcH l c a k) (n,i,b)).getD (0,[])))
theorem xm2:LoopOk Tryz.prog (ITryz.at xh2.pin) xh2.nt (loopAt Tryz.f66 2) xkM:=xbr fun e f h g=>by
 obtain ⟨l,⟨c,⟨a,⟨k,⟨n,⟨i,_⟩⟩⟩⟩⟩⟩:=e
 obtain ⟨b,_⟩:=f
 obtain ⟨d,rfl⟩:=Prod.mk.inj g
 exact xaH mxTryz (inv0Ok Tryz.prog _) rfl xuS xqa (xgb l c a k) (xe3 l c a k) (fun p=>by simp only [xe3,LR.eval];first|(simp;done)|(repeat' split<;>simp)) (xvX l c a k) (s:=(n,i,b)) (xah d)
def xhT:Env:=xoD.fn 82 0 (lsOf []) (lpsOf [(3,xiG),(14,xkM)])
theorem xuO:OrcOk Tryz.prog (ITryz.at 0) xhT:=xld.fn
theorem xqP:LoOk Tryz.prog (ITryz.at xhT.pin) xhT (loopAt Tryz.f66 1):=xbd (ls:=[loopAt Tryz.f66 2]) (by kernel_rfl) (lkC xm2 lkN)
def xg0 (l c:LA) (b:Nat) (k:Int) (a:LA):=(Iter (xcH l c b k) (0,0,a)).getD (0,[])
def xgY (l c:LA) (a:Nat) (k:Int) (b:LA):=xcZ a ((c.getD k.toNat .top).cells.getD 0 .top).toInt (xg0 l c a k b).fst (xg0 l c a k b).snd
def xhf (l c:LA) (b:Nat) (k:Int) (a:LA):=(xgY l c b k a).getD (false,(0,[]),0,[])
def xhh (l c:LA) (b:Nat) (k:Int) (a:LA):=(xhf l c b k a).snd
def xhk (l c:LA) (b:Nat) (k:Int) (a:LA):=(xhf l c b k a).fst
def xgT (l c:LA) (b:Nat) (k:Int) (a:LA):=(xhh l c b k a).fst
def xgU (l c:LA) (b:Nat) (k:Int) (a:LA):=(xhh l c b k a).snd
def xf6 {T:Type} (l c:LA) (b:Nat) (k:Int) (a:LA) (δ:T) (κl:(Nat×Int×LA)→T) (κr:(Nat×LA)→T):T:=br (decide (k<c.length)) (br (decide (0≤k)&&decide (k<c.length)) (br (decide (k.toNat<c.length)&&hasSh1 (Sh.int .i64) ((c.getD k.toNat .top).cells.getD 0 .top)) (br (decide (((c.getD k.toNat .top).cells.getD 0 .top).toInt<1099511627776)) (br ((Iter (xcH l c b k) (0,0,a)).isSome) (br (decide (0≤k)&&decide (k<c.length)) (br (decide (k.toNat<c.length)&&hasSh1 (Sh.int .i64) ((c.getD k.toNat .top).cells.getD 0 .top)) (br ((xgY l c b k a).isSome) (κl (br (xhk l c b k a) (xgT l c b k a).fst (xgU l c b k a).fst,i64.wrap (k+1),br (xhk l c b k a) (xgT l c b k a).snd (xgU l c b k a).snd)) δ) δ) δ) δ) (κr (b,a))) δ) δ) (κr (b,a))
def xcF (l c:LA):(Nat×Int×LA)→Option ((Nat×Int×LA)⊕(Nat×LA)):=fun (b,k,a)=>xf6 l c b k a none (fun s=>some (.inl s)) (fun p=>some (.inr p))
def xga (l c:LA):(Nat×Int×LA)→LA×List Box:=fun (b,k,a)=>([AV.list 3 l,AV.list 1 c,AV.osl 0 0 0 b,AV.int .i64 k],[⟨0,2,75,a,false,true⟩])
def xff (l a:LA):(Nat×LA)→LR:=fun p=>(.leaf (.exit 2) [AV.osl 0 0 0 p.1] [⟨0,2,75,p.2,false,true⟩])
abbrev xwg (a:LA) (H:List Box):=XR Tryz.prog xhT [0,3,5,6] [5] [(5,2,75),(3,1,1073741824)] (loopAt Tryz.f66 1) a H
theorem xvP (l a:LA) (s:Nat×Int×LA):Enc (encR (xga l a) (xff l a)) (xcF l a s) (xwg (xga l a s).1 (xga l a s).2):=by
 obtain ⟨c,k,b⟩:=s
 refine eV (xf6 l a c k b none (fun s=>some (encR (xga l a) (xff l a) (.inl s))) (fun p=>some (encR (xga l a) (xff l a) (.inr p)))) (by kernel_rfl) ?_;unfold xcF xf6;repeat' first|exact eN|exact eS rfl|apply eB
def xoE:Lp:=lpOf [0,3,5,6] [5] [(5,2,75),(3,1,1073741824)] (pCons (pList 3 pAny) (pCons (pList 1 pAny) (pCons (pOsl 0 0 0) (pCons (pInt .i64) pNil)))) (pCons (pBox 0 2 75 false true pAny) pNil) fun (l,(c,(b,(k,_)))) (a,_)=>((Iter (xcF l c) (b,k,a)).isSome,xff l c ((Iter (xcF l c) (b,k,a)).getD (0,[])))
theorem xtt:LoopOk Tryz.prog (ITryz.at xhT.pin) xhT.nt (loopAt Tryz.f66 1) xoE:=xbr fun e f h g=>by
 obtain ⟨l,⟨c,⟨b,⟨k,_⟩⟩⟩⟩:=e
 obtain ⟨a,_⟩:=f
 obtain ⟨d,rfl⟩:=Prod.mk.inj g
 exact xaH mxTryz (inv0Ok Tryz.prog _) rfl xuO xqP (xga l c) (xff l c) (fun p=>by simp only [xff,LR.eval];first|(simp;done)|(repeat' split<;>simp)) (xvP l c) (s:=(b,k,a)) (xah d)
def xji:Env:=xoD.fn 82 0 (lsOf []) (lpsOf [(3,xiG),(14,xkM),(10,xoE)])
theorem xuE:OrcOk Tryz.prog (ITryz.at 0) xji:=xld.fn
theorem xsr:LoOk Tryz.prog (ITryz.at xji.pin) xji (Tryz.f66.body.getD .skip):=xbd (ls:=[loopAt Tryz.f66 0,loopAt Tryz.f66 1,loopAt Tryz.f66 2]) (by kernel_rfl) (lkC xt3 (lkC xtt (lkC xm2 lkN)))
def xnx (l:LA):=Iter (xcF l ((Iter (xcE l) ([AV.int .i64 0],0)).getD [])) (0,0,[])
def xnD (l:LA):=(xnx l).getD (0,[])
def xnt (l:LA):=(xnD l).fst
def xnP (l:LA):=(xnD l).snd
def xl8 {T:Type} (l:LA) (δ:T) (κ:LA→T):T:=br ((Iter (xcE l) ([AV.int .i64 0],0)).isSome) (br ((xnx l).isSome) (br (decide (0+xnt l≤(xnP l).length)&&true) (κ (List.take (xnt l) (List.drop 0 (xnP l)))) δ) δ) δ
def xjv (l:LA):Option (LA):=xl8 l none some
theorem xAA (l:LA):Enc (fun (p:LA)=>((AV.list 2 p):AV)) (xjv l) (XF Tryz.prog xji Tryz.f66 (Tryz.f66.body.getD .skip) [AV.list 3 l]):=by
 refine eV (xl8 l none (fun (p:LA)=>some ((AV.list 2 p):AV))) (by kernel_rfl) ?_;unfold xjv xl8;repeat' first|exact eN|exact eS rfl|apply eB
def xtT:LA→Option (Bool×AV):=ocOf (sCons (sList 3 pAny) sNil) fun (l,_)=>((xjv l).isSome,(AV.list 2 ((xjv l).getD [])))
theorem xAS:OcOk Tryz.prog ITryz 66 (xtT):=xax fun c f e=>by
 obtain ⟨l,_⟩:=c
 obtain ⟨a,b⟩:=Prod.mk.inj e
 refine xaL (p:=xji.pin) (xaW mxTryz (inv0Ok Tryz.prog _) rfl xuE Tryz.func66 rfl (by kernel_rfl) xsr ((xAA _ _ (xah (d:=[]) a)).trans ?_))
 exact congrArg some b
def xtj:Env:=xoD.with 66 xtT
theorem xqM:OrcOk Tryz.prog ITryz xtj:=xld.with xAS
def xe7:Env:=xtj.fn 32 0 (lsOf []) (lpsOf [])
theorem xp4:OrcOk Tryz.prog (ITryz.at 0) xe7:=xqM.fn
theorem xnz:LoOk Tryz.prog (ITryz.at xe7.pin) xe7 (loopAt Tryz.f39 0):=xaF (by kernel_rfl)
def xfi {T:Type} (l c:LA) (a:Nat) (i:Int) (b:LA) (δ:T) (κl:(Nat×Int×LA)→T) (κr:(Nat×LA)→T):T:=br (decide (i<l.length)) (br (decide (0≤i)&&decide (i<l.length)) (br (decide (i.toNat<l.length)&&hasSh1 (Sh.list 3) ((l.getD i.toNat .top).cells.getD 0 .top)) (br ((xct ((l.getD i.toNat .top).cells.getD 0 .top).toList c).isSome) (br ((xct ((l.getD i.toNat .top).cells.getD 0 .top).toList c).getD 0==0) (br (decide (0≤i)&&decide (i<l.length)) (br (decide (i.toNat<l.length)&&((l.getD i.toNat .top).cells.length==3&&hasShs [Sh.int .i64,Sh.int .i64] (l.getD i.toNat .top).cells 1)) (br (a==b.length&&(decide ((a+1)*24≤140737488355328)&&decide (a+1≤4611686018427387904))) (κl (a+1,i64.wrap (i+1),b++[AV.agg [AV.int .i64 ((l.getD i.toNat .top).cells.getD 1 .top).toInt,AV.int .i64 ((l.getD i.toNat .top).cells.getD 2 .top).toInt,AV.int .i64 1]])) δ) δ) δ) (κl (a,i64.wrap (i+1),b))) δ) δ) δ) (κr (a,b))
def xbZ (l b:LA):(Nat×Int×LA)→Option ((Nat×Int×LA)⊕(Nat×LA)):=fun (c,i,a)=>xfi l b c i a none (fun s=>some (.inl s)) (fun p=>some (.inr p))
def xd5 (l b:LA):(Nat×Int×LA)→LA×List Box:=fun (c,i,a)=>([AV.list 3 l,AV.list 3 b,AV.osl 0 0 0 c,AV.int .i64 i],[⟨0,3,78,a,false,true⟩])
def xdv (l a:LA):(Nat×LA)→LR:=fun p=>(.leaf (.exit 0) [AV.osl 0 0 0 p.1] [⟨0,3,78,p.2,false,true⟩])
abbrev xrF (a:LA) (H:List Box):=XR Tryz.prog xe7 [0,1,5,6] [5] [(5,3,78)] (loopAt Tryz.f39 0) a H
theorem xrJ (l a:LA) (s:Nat×Int×LA):Enc (encR (xd5 l a) (xdv l a)) (xbZ l a s) (xrF (xd5 l a s).1 (xd5 l a s).2):=by
 obtain ⟨c,i,b⟩:=s
 refine eV (xfi l a c i b none (fun s=>some (encR (xd5 l a) (xdv l a) (.inl s))) (fun p=>some (encR (xd5 l a) (xdv l a) (.inr p)))) (by kernel_rfl) ?_;unfold xbZ xfi;repeat' first|exact eN|exact eS rfl|apply eB
def xls:Lp:=lpOf [0,1,5,6] [5] [(5,3,78)] (pCons (pList 3 pAny) (pCons (pList 3 pAny) (pCons (pOsl 0 0 0) (pCons (pInt .i64) pNil)))) (pCons (pBox 0 3 78 false true pAny) pNil) fun (l,(a,(c,(i,_)))) (b,_)=>((Iter (xbZ l a) (c,i,b)).isSome,xdv l a ((Iter (xbZ l a) (c,i,b)).getD (0,[])))
theorem xpX:LoopOk Tryz.prog (ITryz.at xe7.pin) xe7.nt (loopAt Tryz.f39 0) xls:=xbr fun e f h g=>by
 obtain ⟨l,⟨a,⟨c,⟨i,_⟩⟩⟩⟩:=e
 obtain ⟨b,_⟩:=f
 obtain ⟨d,rfl⟩:=Prod.mk.inj g
 exact xaH mxTryz (inv0Ok Tryz.prog _) rfl xp4 xnz (xd5 l a) (xdv l a) (fun p=>by simp only [xdv,LR.eval];first|(simp;done)|(repeat' split<;>simp)) (xrJ l a) (s:=(c,i,b)) (xah d)
def xgd:Env:=xtj.fn 32 0 (lsOf []) (lpsOf [(3,xls)])
theorem xqR:OrcOk Tryz.prog (ITryz.at 0) xgd:=xqM.fn
theorem xpa:LoOk Tryz.prog (ITryz.at xgd.pin) xgd (Tryz.f39.body.getD .skip):=xbd (ls:=[loopAt Tryz.f39 0]) (by kernel_rfl) (lkC xpX lkN)
def xks (l a:LA):=(Iter (xbZ l a) (0,0,[])).getD (0,[])
def xj0 (l a:LA):=(xks l a).snd
def xj1 (l a:LA):=(xks l a).fst
def xko (l a:LA):=xjv (List.take (xj1 l a) (List.drop 0 (xj0 l a)))
def xiU {T:Type} (l a:LA) (δ:T) (κ:LA→T):T:=br ((Iter (xbZ l a) (0,0,[])).isSome) (br (decide (0+xj1 l a≤(xj0 l a).length)&&true) (br ((xko l a).isSome) (κ ((xko l a).getD [])) δ) δ) δ
def xdS (l a:LA):Option (LA):=xiU l a none some
theorem xul (l a:LA):Enc (fun (p:LA)=>((AV.list 2 p):AV)) (xdS l a) (XF Tryz.prog xgd Tryz.f39 (Tryz.f39.body.getD .skip) [AV.list 3 l,AV.list 3 a]):=by
 refine eV (xiU l a none (fun (p:LA)=>some ((AV.list 2 p):AV))) (by kernel_rfl) ?_;unfold xdS xiU;repeat' first|exact eN|exact eS rfl|apply eB
def xob:LA→Option (Bool×AV):=ocOf (sCons (sList 3 pAny) (sCons (sList 3 pAny) sNil)) fun (l,(a,_))=>((xdS l a).isSome,(AV.list 2 ((xdS l a).getD [])))
theorem xuu:OcOk Tryz.prog ITryz 39 (xob):=xax fun c g e=>by
 obtain ⟨l,⟨f,_⟩⟩:=c
 obtain ⟨a,b⟩:=Prod.mk.inj e
 refine xaL (p:=xgd.pin) (xaW mxTryz (inv0Ok Tryz.prog _) rfl xqR Tryz.func39 rfl (by kernel_rfl) xpa ((xul _ _ _ (xah (d:=[]) a)).trans ?_))
 exact congrArg some b
def xAY:Env:=xtj.with 39 xob
theorem xA8:OrcOk Tryz.prog ITryz xAY:=xqM.with xuu
abbrev xBK:Env:=xAY
theorem xCs:OrcOk Tryz.prog ITryz xBK:=xA8
abbrev xA4:Env:=xBK
theorem xBv:OrcOk Tryz.prog ITryz xA4:=xCs
abbrev xBh:Env:=xA4
theorem xBs:OrcOk Tryz.prog ITryz xBh:=xBv
abbrev xBf:Env:=xBh
theorem xCG:OrcOk Tryz.prog ITryz xBf:=xBs
abbrev EKR2:Env:=xBf
theorem xEr:OrcOk Tryz.prog ITryz EKR2:=xCG
end Go.Sim.M
end
noncomputable section
set_option maxRecDepth 100000
namespace Go.Sim.M
open Go.IntKind (i64 u64 u8)
open Go.RowKit Go.Proofs
abbrev xCg:Env:=EKR2
theorem xBR:OrcOk Tryz.prog ITryz xCg:=xEr
abbrev xBe:Env:=xCg
theorem xBY:OrcOk Tryz.prog ITryz xBe:=xBR
abbrev xAW:Env:=xBe
theorem xBW:OrcOk Tryz.prog ITryz xAW:=xBY
abbrev xBp:Env:=xAW
theorem xBE:OrcOk Tryz.prog ITryz xBp:=xBW
abbrev xCb:Env:=xBp
theorem xBH:OrcOk Tryz.prog ITryz xCb:=xBE
abbrev xtG:Env:=xCb
theorem xqY:OrcOk Tryz.prog ITryz xtG:=xBH
def xh1:Env:=xtG.fn 30 0 (lsOf []) (lpsOf [])
theorem xuw:OrcOk Tryz.prog (ITryz.at 0) xh1:=xqY.fn
theorem xqH:LoOk Tryz.prog (ITryz.at xh1.pin) xh1 (loopAt Tryz.f25 0):=xaF (by kernel_rfl)
def xhO {T:Type} (l:LA) (t:Int) (a:Nat) (i:Int) (b:LA) (δ:T) (κl:(Nat×Int×LA)→T) (κr:(Nat×LA)→T):T:=br (decide (i<l.length)) (br (decide (0≤i)&&decide (i<l.length)) (br (decide (i.toNat<l.length)&&((l.getD i.toNat .top).cells.length==3&&hasShs [Sh.int .i64,Sh.int .i64] (l.getD i.toNat .top).cells 1)) (br (xeJ ((l.getD i.toNat .top).cells.getD 1 .top).toInt ((l.getD i.toNat .top).cells.getD 2 .top).toInt t) (br (decide (0≤i)&&decide (i<l.length)) (br (decide (i.toNat<l.length)&&hasSh1 (Sh.list 3) ((l.getD i.toNat .top).cells.getD 0 .top)) (br (a==b.length&&(decide ((a+1)*24≤140737488355328)&&decide (a+1≤4611686018427387904))) (κl (a+1,i64.wrap (i+1),b++[AV.list 3 ((l.getD i.toNat .top).cells.getD 0 .top).toList])) δ) δ) δ) (κl (a,i64.wrap (i+1),b))) δ) δ) (κr (a,b))
def xcD (l:LA) (t:Int):(Nat×Int×LA)→Option ((Nat×Int×LA)⊕(Nat×LA)):=fun (b,i,a)=>xhO l t b i a none (fun s=>some (.inl s)) (fun p=>some (.inr p))
def xfY (l:LA) (t:Int):(Nat×Int×LA)→LA×List Box:=fun (b,i,a)=>([AV.list 3 l,AV.int .i64 t,AV.osl 0 0 0 b,AV.int .i64 i],[⟨0,1,40,a,false,true⟩])
def xe8 (l:LA) (t:Int):(Nat×LA)→LR:=fun p=>(.leaf (.exit 0) [AV.osl 0 0 0 p.1] [⟨0,1,40,p.2,false,true⟩])
abbrev xvT (a:LA) (H:List Box):=XR Tryz.prog xh1 [0,1,5,6] [5] [(5,1,40)] (loopAt Tryz.f25 0) a H
theorem xv1 (l:LA) (t:Int) (s:Nat×Int×LA):Enc (encR (xfY l t) (xe8 l t)) (xcD l t s) (xvT (xfY l t s).1 (xfY l t s).2):=by
 obtain ⟨b,i,a⟩:=s
 refine eV (xhO l t b i a none (fun s=>some (encR (xfY l t) (xe8 l t) (.inl s))) (fun p=>some (encR (xfY l t) (xe8 l t) (.inr p)))) (by kernel_rfl) ?_;unfold xcD xhO;repeat' first|exact eN|exact eS rfl|apply eB
def xn7:Lp:=lpOf [0,1,5,6] [5] [(5,1,40)] (pCons (pList 3 pAny) (pCons (pInt .i64) (pCons (pOsl 0 0 0) (pCons (pInt .i64) pNil)))) (pCons (pBox 0 1 40 false true pAny) pNil) fun (l,(t,(b,(i,_)))) (a,_)=>((Iter (xcD l t) (b,i,a)).isSome,xe8 l t ((Iter (xcD l t) (b,i,a)).getD (0,[])))
theorem xtv:LoopOk Tryz.prog (ITryz.at xh1.pin) xh1.nt (loopAt Tryz.f25 0) xn7:=xbr fun d e g f=>by
 obtain ⟨l,⟨t,⟨b,⟨i,_⟩⟩⟩⟩:=d
 obtain ⟨a,_⟩:=e
 obtain ⟨c,rfl⟩:=Prod.mk.inj f
 exact xaH mxTryz (inv0Ok Tryz.prog _) rfl xuw xqH (xfY l t) (xe8 l t) (fun p=>by simp only [xe8,LR.eval];first|(simp;done)|(repeat' split<;>simp)) (xv1 l t) (s:=(b,i,a)) (xah c)
def xjf:Env:=xtG.fn 30 0 (lsOf []) (lpsOf [(3,xn7)])
theorem xuZ:OrcOk Tryz.prog (ITryz.at 0) xjf:=xqY.fn
theorem xst:LoOk Tryz.prog (ITryz.at xjf.pin) xjf (Tryz.f25.body.getD .skip):=xbd (ls:=[loopAt Tryz.f25 0]) (by kernel_rfl) (lkC xtv lkN)
def xnO (l:LA) (t:Int):=(Iter (xcD l t) (0,0,[])).getD (0,[])
def xnQ (l:LA) (t:Int):=(xnO l t).snd
def xnL (l:LA) (t:Int):=(xnO l t).fst
def xnu (l:LA) (t:Int):=xhw (List.take (xnL l t) (List.drop 0 (xnQ l t)))
def xlX {T:Type} (l:LA) (t:Int) (δ:T) (κ:LA→T):T:=br ((Iter (xcD l t) (0,0,[])).isSome) (br (decide (0+xnL l t≤(xnQ l t).length)&&true) (br ((xnu l t).isSome) (κ ((xnu l t).getD [])) δ) δ) δ
def xhA (l:LA) (t:Int):Option (LA):=xlX l t none some
theorem xAk (l:LA) (t:Int):Enc (fun (p:LA)=>((AV.list 1 p):AV)) (xhA l t) (XF Tryz.prog xjf Tryz.f25 (Tryz.f25.body.getD .skip) [AV.list 3 l,AV.int .i64 t]):=by
 refine eV (xlX l t none (fun (p:LA)=>some ((AV.list 1 p):AV))) (by kernel_rfl) ?_;unfold xhA xlX;repeat' first|exact eN|exact eS rfl|apply eB
def xtJ:LA→Option (Bool×AV):=ocOf (sCons (sList 3 pAny) (sCons (sEq (pInt .i64)) sNil)) fun (l,(t,_))=>((xhA l t).isSome,(AV.list 1 ((xhA l t).getD [])))
theorem xAj:OcOk Tryz.prog ITryz 25 (xtJ):=xax fun c f e=>by
 obtain ⟨l,⟨t,_⟩⟩:=c
 obtain ⟨a,b⟩:=Prod.mk.inj e
 refine xaL (p:=xjf.pin) (xaW mxTryz (inv0Ok Tryz.prog _) rfl xuZ Tryz.func25 rfl (by kernel_rfl) xst ((xAk _ _ _ (xah (d:=[]) a)).trans ?_))
 exact congrArg some b
def xtF:Env:=xtG.with 25 xtJ
theorem xp8:OrcOk Tryz.prog ITryz xtF:=xqY.with xAj
def xd1:Env:=xtF.fn 27 0 (lsOf []) (lpsOf [])
theorem xoM:OrcOk Tryz.prog (ITryz.at 0) xd1:=xp8.fn
theorem xmg:LoOk Tryz.prog (ITryz.at xd1.pin) xd1 (loopAt Tryz.f27 0):=xaF (by kernel_rfl)
def xes {T:Type} (a b:LA) (i:Int) (δ:T) (κl:(Int)→T) (κr:(Bool×(Bool)×(Unit))→T):T:=br (decide (i<a.length)) (br (decide (0≤i)&&decide (i<a.length)) (br (decide (i.toNat<a.length)&&hasSh1 (Sh.list 3) ((a.getD i.toNat .top).cells.getD 0 .top)) (br (decide (0≤i)&&decide (i<b.length)) (br (decide (i.toNat<b.length)&&hasSh1 (Sh.list 3) ((b.getD i.toNat .top).cells.getD 0 .top)) (br ((xfu ((a.getD i.toNat .top).cells.getD 0 .top).toList ((b.getD i.toNat .top).cells.getD 0 .top).toList).isSome) (br (!(xfu ((a.getD i.toNat .top).cells.getD 0 .top).toList ((b.getD i.toNat .top).cells.getD 0 .top).toList).getD false) (κr (true,(false),())) (κl (i64.wrap (i+1)))) δ) δ) δ) δ) δ) (κr (false,false,()))
def xa7 (a b:LA):(Int)→Option ((Int)⊕(Bool×(Bool)×(Unit))):=fun (i)=>xes a b i none (fun s=>some (.inl s)) (fun p=>some (.inr p))
def xdq (a b:LA):(Int)→LA×List Box:=fun (i)=>([AV.list 1 a,AV.list 1 b,AV.int .i64 i],[])
def xcX (a b:LA):(Bool×(Bool)×(Unit))→LR:=fun p=>(.node p.1 (.leaf .ret [AV.bool p.2.1] []) (.leaf (.exit 0) [.top] []))
abbrev xpI (a:LA) (H:List Box):=XR Tryz.prog xd1 [0,1,5] [4] [] (loopAt Tryz.f27 0) a H
theorem xpU (a b:LA) (i:Int):Enc (encR (xdq a b) (xcX a b)) (xa7 a b i) (xpI (xdq a b i).1 (xdq a b i).2):=by
 refine eV (xes a b i none (fun s=>some (encR (xdq a b) (xcX a b) (.inl s))) (fun p=>some (encR (xdq a b) (xcX a b) (.inr p)))) (by kernel_rfl) ?_;unfold xa7 xes;repeat' first|exact eN|exact eS rfl|apply eB
def xj4:Lp:=lpOf [0,1,5] [4] [] (pCons (pList 1 pAny) (pCons (pList 1 pAny) (pCons (pInt .i64) pNil))) pNil fun (a,(b,(i,_))) _=>((Iter (xa7 a b) (i)).isSome,xcX a b ((Iter (xa7 a b) (i)).getD (false,false,())))
theorem xn4:LoopOk Tryz.prog (ITryz.at xd1.pin) xd1.nt (loopAt Tryz.f27 0) xj4:=xbr fun d f g e=>by
 obtain ⟨a,⟨b,⟨i,_⟩⟩⟩:=d
 obtain ⟨c,rfl⟩:=Prod.mk.inj e
 exact xaH mxTryz (inv0Ok Tryz.prog _) rfl xoM xmg (xdq a b) (xcX a b) (fun p=>by simp only [xcX,LR.eval];first|(simp;done)|(repeat' split<;>simp)) (xpU a b) (s:=(i)) (xah c)
def xfk:Env:=xtF.fn 27 0 (lsOf []) (lpsOf [(4,xj4)])
theorem xoH:OrcOk Tryz.prog (ITryz.at 0) xfk:=xp8.fn
theorem xnK:LoOk Tryz.prog (ITryz.at xfk.pin) xfk (Tryz.f27.body.getD .skip):=xbd (ls:=[loopAt Tryz.f27 0]) (by kernel_rfl) (lkC xn4 lkN)
def xhC {T:Type} (a b:LA) (δ:T) (κ:Bool→T):T:=br ((↑a.length:Int) != (↑b.length:Int)) (κ (false)) (br ((Iter (xa7 a b) 0).isSome) (br (((Iter (xa7 a b) 0).getD (false,false,())).fst) (κ (((Iter (xa7 a b) 0).getD (false,false,())).snd.fst)) (κ (true))) δ)
def xdL (a b:LA):Option (Bool):=xhC a b none some
theorem xsZ (a b:LA):Enc (fun (p:Bool)=>((AV.bool p):AV)) (xdL a b) (XF Tryz.prog xfk Tryz.f27 (Tryz.f27.body.getD .skip) [AV.list 1 a,AV.list 1 b]):=by
 refine eV (xhC a b none (fun (p:Bool)=>some ((AV.bool p):AV))) (by kernel_rfl) ?_;unfold xdL xhC;repeat' first|exact eN|exact eS rfl|apply eB
def xmA:LA→Option (Bool×AV):=ocOf (sCons (sList 1 pAny) (sCons (sList 1 pAny) sNil)) fun (a,(b,_))=>((xdL a b).isSome,(AV.bool ((xdL a b).getD false)))
theorem xsH:OcOk Tryz.prog ITryz 27 (xmA):=xax fun f h g=>by
 obtain ⟨a,⟨b,_⟩⟩:=f
 obtain ⟨c,e⟩:=Prod.mk.inj g
 refine xaL (p:=xfk.pin) (xaW mxTryz (inv0Ok Tryz.prog _) rfl xoH Tryz.func27 rfl (by kernel_rfl) xnK ((xsZ _ _ _ (xah (d:=false) c)).trans ?_))
 exact congrArg some e
def xCn:Env:=xtF.with 27 xmA
theorem xBG:OrcOk Tryz.prog ITryz xCn:=xp8.with xsH
abbrev xs8:Env:=xCn
theorem xq9:OrcOk Tryz.prog ITryz xs8:=xBG
def xfZ:Env:=xs8.fn 26 0 (lsOf []) (lpsOf [])
theorem xs0:OrcOk Tryz.prog (ITryz.at 0) xfZ:=xq9.fn
theorem xoY:LoOk Tryz.prog (ITryz.at xfZ.pin) xfZ (loopAt Tryz.f37 0):=xaF (by kernel_rfl)
def xgh {T:Type} (a b:LA) (i:Int) (δ:T) (κl:(Int)→T) (κr:(Bool×(Bool)×(Unit))→T):T:=br (decide (i<a.length)) (br (decide (0≤i)&&decide (i<a.length)) (br (decide (i.toNat<a.length)&&((a.getD i.toNat .top).cells.length==2&&hasShs [Sh.int .i64,Sh.int .i64] (a.getD i.toNat .top).cells 0)) (br (decide (0≤i)&&decide (i<b.length)) (br (decide (i.toNat<b.length)&&((b.getD i.toNat .top).cells.length==2&&hasShs [Sh.int .i64,Sh.int .i64] (b.getD i.toNat .top).cells 0)) (br (!(((a.getD i.toNat .top).cells.getD 0 .top).toInt==((b.getD i.toNat .top).cells.getD 0 .top).toInt&&(((a.getD i.toNat .top).cells.getD 1 .top).toInt==((b.getD i.toNat .top).cells.getD 1 .top).toInt&&true))) (κr (true,(false),())) (κl (i64.wrap (i+1)))) δ) δ) δ) δ) (κr (false,false,()))
def xb0 (a b:LA):(Int)→Option ((Int)⊕(Bool×(Bool)×(Unit))):=fun (i)=>xgh a b i none (fun s=>some (.inl s)) (fun p=>some (.inr p))
def xe5 (a b:LA):(Int)→LA×List Box:=fun (i)=>([AV.list 2 a,AV.list 2 b,AV.int .i64 i],[])
def xd4 (a b:LA):(Bool×(Bool)×(Unit))→LR:=fun p=>(.node p.1 (.leaf .ret [AV.bool p.2.1] []) (.leaf (.exit 0) [.top] []))
abbrev xtQ (a:LA) (H:List Box):=XR Tryz.prog xfZ [0,1,5] [4] [] (loopAt Tryz.f37 0) a H
theorem xtM (a b:LA) (i:Int):Enc (encR (xe5 a b) (xd4 a b)) (xb0 a b i) (xtQ (xe5 a b i).1 (xe5 a b i).2):=by
 refine eV (xgh a b i none (fun s=>some (encR (xe5 a b) (xd4 a b) (.inl s))) (fun p=>some (encR (xe5 a b) (xd4 a b) (.inr p)))) (by kernel_rfl) ?_;unfold xb0 xgh;repeat' first|exact eN|exact eS rfl|apply eB
def xmB:Lp:=lpOf [0,1,5] [4] [] (pCons (pList 2 pAny) (pCons (pList 2 pAny) (pCons (pInt .i64) pNil))) pNil fun (a,(b,(i,_))) _=>((Iter (xb0 a b) (i)).isSome,xd4 a b ((Iter (xb0 a b) (i)).getD (false,false,())))
theorem xro:LoopOk Tryz.prog (ITryz.at xfZ.pin) xfZ.nt (loopAt Tryz.f37 0) xmB:=xbr fun d f g e=>by
 obtain ⟨a,⟨b,⟨i,_⟩⟩⟩:=d
 obtain ⟨c,rfl⟩:=Prod.mk.inj e
 exact xaH mxTryz (inv0Ok Tryz.prog _) rfl xs0 xoY (xe5 a b) (xd4 a b) (fun p=>by simp only [xd4,LR.eval];first|(simp;done)|(repeat' split<;>simp)) (xtM a b) (s:=(i)) (xah c)
def xhN:Env:=xs8.fn 26 0 (lsOf []) (lpsOf [(4,xmB)])
theorem xsB:OrcOk Tryz.prog (ITryz.at 0) xhN:=xq9.fn
theorem xq6:LoOk Tryz.prog (ITryz.at xhN.pin) xhN (Tryz.f37.body.getD .skip):=xbd (ls:=[loopAt Tryz.f37 0]) (by kernel_rfl) (lkC xro lkN)
def xkr {T:Type} (a b:LA) (δ:T) (κ:Bool→T):T:=br ((↑a.length:Int) != (↑b.length:Int)) (κ (false)) (br ((Iter (xb0 a b) 0).isSome) (br (((Iter (xb0 a b) 0).getD (false,false,())).fst) (κ (((Iter (xb0 a b) 0).getD (false,false,())).snd.fst)) (κ (true))) δ)
def xgi (a b:LA):Option (Bool):=xkr a b none some
theorem xys (a b:LA):Enc (fun (p:Bool)=>((AV.bool p):AV)) (xgi a b) (XF Tryz.prog xhN Tryz.f37 (Tryz.f37.body.getD .skip) [AV.list 2 a,AV.list 2 b]):=by
 refine eV (xkr a b none (fun (p:Bool)=>some ((AV.bool p):AV))) (by kernel_rfl) ?_;unfold xgi xkr;repeat' first|exact eN|exact eS rfl|apply eB
def xqN:LA→Option (Bool×AV):=ocOf (sCons (sList 2 pAny) (sCons (sList 2 pAny) sNil)) fun (a,(b,_))=>((xgi a b).isSome,(AV.bool ((xgi a b).getD false)))
theorem xyJ:OcOk Tryz.prog ITryz 37 (xqN):=xax fun f h g=>by
 obtain ⟨a,⟨b,_⟩⟩:=f
 obtain ⟨c,e⟩:=Prod.mk.inj g
 refine xaL (p:=xhN.pin) (xaW mxTryz (inv0Ok Tryz.prog _) rfl xsB Tryz.func37 rfl (by kernel_rfl) xq6 ((xys _ _ _ (xah (d:=false) c)).trans ?_))
 exact congrArg some e
def xzE:Env:=xs8.with 37 xqN
theorem xz0:OrcOk Tryz.prog ITryz xzE:=xq9.with xyJ
abbrev EKR3:Env:=xzE
theorem xES:OrcOk Tryz.prog ITryz EKR3:=xz0
end Go.Sim.M
end
noncomputable section
set_option maxRecDepth 100000
namespace Go.Sim
def stepX (P:Program) (E:Env) (live liveO:List Nat) (conv:List (Nat×Nat×TypeId)) (c:Code) (s:List AV×List Box):Option ((List AV×List Box)⊕{r:Exit×List AV×List Box // r.1≠.normal}) :=
 match XR P E live liveO conv c s.1 s.2 with
 | some (.normal,v,H)=>some (.inl (v,H))
 | some (.exit i,v,H)=>some (.inr ⟨(.exit i,v,H),by simp⟩)
 | some (.ret,v,H)=>some (.inr ⟨(.ret,v,H),by simp⟩)
 | _=>none
def closedLp (P:Program) (E:Env) (live liveO:List Nat) (conv:List (Nat×Nat×TypeId)) (c:Code) (n:Nat):Lp:=⟨live,liveO,conv,fun vals H =>
 match iterN (stepX P E live liveO conv c) n (vals,H) with
 | some r=>some (true,.leaf r.1.1 r.1.2.1 r.1.2.2)
 | none=>none⟩
theorem xzc {P:Program} {Inv:IV} {E:Env} (hmx:P.follows .mixedOrders=true) (hIo:InvOk Inv) (hpin:Inv.pin=E.pin) (hor:OrcOk P Inv E) {c:Code} (hlo:LoOk P Inv E c) {live liveO:List Nat} {conv:List (Nat×Nat×TypeId)} {n:Nat} :
  LoopOk P Inv E.nt c (closedLp P E live liveO conv c n):=fun vals H r h=>by
 simp only [closedLp] at h
 split at h
 case h_2=>simp at h
 rename_i r0 hr
 simp only [Option.some.injEq,Prod.mk.injEq,true_and] at h
 subst h
 exact xaH hmx hIo hpin hor hlo (σ:=List AV×List Box) (ρ:={r:Exit×List AV×List Box // r.1≠.normal}) (step:=stepX P E live liveO conv c) (fun s=>s) (fun r=>.leaf r.1.1 r.1.2.1 r.1.2.2) (fun r=>r.2)
  (fun s r hs=>by
   unfold stepX at hs
   split at hs<;>simp only [Option.some.injEq,reduceCtorEq] at hs
   all_goals (subst hs;rename_i hx;exact hx)) (s:=(vals,H)) (r:=r0) (xk2.2 ⟨n,hr⟩)
end Go.Sim
namespace Go.Sim.M
open Go.RowKit Go.Proofs
def mmA (g:FuncId):Bool:=([115,117,
 129,154,167,
 95,128,146,
 69,94,120,
 53,82,100,55,
 92,119,141,
 112,137,157,
 97,68,90,78]:List Nat).contains g
noncomputable def EA0:Env:={ E0 with ls:=lsOf [40,42,83],fuel:=1000 }
theorem xBl:OrcOk Tryz.prog ITryz EA0:=xDQ
noncomputable def EAr:Env:={ Env.deep Tryz.prog mmA EA0 10 with pin:=0,nt:=60,ls:=lsOf [] }
theorem xB3:OrcOk Tryz.prog (ITryz.at 0) EAr:=xl5 mxTryz mmA (inv0Ok Tryz.prog 0) xBl (fun _=>rfl) 10
noncomputable def xBM:Lp:=closedLp Tryz.prog EAr [3,4,11,12,13] [4] [(4,2,133280301139)] (loopAt Tryz.f67 0) 100
noncomputable def EAr1:Env:={ EAr with lp:=lpsOf [(codeId (loopAt Tryz.f67 0),xBM)] }
theorem xEY:OrcOk Tryz.prog (ITryz.at 0) EAr1:=xB3
noncomputable def xuV:List AV→Option (Bool×AV):=fun xs=>match XF Tryz.prog EAr1 Tryz.f67 (Tryz.f67.body.getD .skip) xs with
 | some r=>some (true,r)
 | none=>none
theorem xEQ:OcOk Tryz.prog ITryz 67 xuV:=fun xs r h=>by
 unfold xuV at h
 split at h
 case h_2=>simp at h
 rename_i r0 hr
 simp only [Option.some.injEq,Prod.mk.injEq,true_and] at h
 subst h
 refine xaL (p:=0) (xaW mxTryz (inv0Ok Tryz.prog _) rfl xEY Tryz.func67 rfl (by kernel_rfl) (xbd (ls:=[loopAt Tryz.f67 0]) (by kernel_rfl) (fun l hl lp hs=>?_)) hr)
 simp only [List.mem_cons,List.not_mem_nil,or_false] at hl
 subst hl
 rw [show EAr1.lp (codeId (loopAt Tryz.f67 0))=some xBM by kernel_rfl] at hs
 simp only [Option.some.injEq] at hs
 subst hs
 exact xzc (E:=EAr) mxTryz (inv0Ok Tryz.prog _) rfl xB3 (xlr fun _=>rfl)
noncomputable def EAs:Env:=EA0.with 67 xuV
theorem xCm:OrcOk Tryz.prog ITryz EAs:=xBl.with xEQ
noncomputable def EAd:Env:={ Env.deep Tryz.prog mmA EAs 14 with pin:=0 }
mutual
def eqV:AV→AV→Bool
 | .int k a,.int k' b=>decide (k=k')&&decide (a=b)
 | .bool a,.bool b=>a==b
 | .str a,.str b=>decide (a=b)
 | .list n a,.list m b=>Nat.beq n m&&eqVs a b
 | .agg a,.agg b=>eqVs a b
 | _,_=>false
def eqVs:List AV→List AV→Bool
 | [],[]=>true
 | a::l,b::m=>eqV a b&&eqVs l m
 | _,_=>false
end
mutual
theorem xFG:∀ (a b:AV),eqV a b=true→a=b:=fun a b h=>by
 cases a<;>cases b<;>first|(simp [eqV] at h;done)|skip
 all_goals simp only [eqV,Bool.and_eq_true,decide_eq_true_eq,beq_iff_eq] at h
 all_goals first|(rw [h.1,h.2];done)|(rw [h];done)|(rw [Nat.eq_of_beq_eq_true h.1,xre _ _ h.2];done)|(rw [xre _ _ h])
theorem xre:∀ (a b:List AV),eqVs a b=true→a=b
 | [],[],_=>rfl
 | a::l,b::m,h=>by simp only [eqVs,Bool.and_eq_true] at h;rw [xFG a b h.1,xre l m h.2]
 | [],_::_,h=>by simp [eqVs] at h
 | _::_,[],h=>by simp [eqVs] at h
end
def ptO (args:List AV) (r:AV):List AV→Option (Bool×AV):=fun xs=>match eqVs xs args with
 | true=>some (true,r)
 | false=>none
theorem xws {P:Program} {Inv:IV} {f:FuncId} {args:List AV} {r:AV} (h:Good P Inv f args r):OcOk P Inv f (ptO args r):=fun xs r0 h0=>by
 unfold ptO at h0
 split at h0
 case h_2=>simp at h0
 rename_i he
 simp only [Option.some.injEq,Prod.mk.injEq,true_and] at h0
 subst h0
 rw [xre _ _ he];exact h
theorem xm4 {f:FuncId} {fn:Func} {args:List AV} {r:AV} (hf:Tryz.prog.funcs[f]?=some fn) (hb:fn.body.isSome=true) (hname:(fn.name == "runtime.NumGoroutine")=false) (h:XF Tryz.prog EAd fn (fn.body.getD .skip) args=some r):Good Tryz.prog ITryz f args r :=
 xaL (p:=0) (xaW mxTryz (inv0Ok Tryz.prog _) rfl (xnm (xl5 mxTryz mmA (inv0Ok Tryz.prog 0) xCm (fun _=>rfl) 14)) hf hb hname (xlr fun _=>rfl) h)
def fcA (a b:Int):AV:=.agg [.list 3 [.agg [.int .i64 1,.int .i64 1,.str []]],.int .i64 a,.int .i64 b]
def lA:AV:=.list 3 [fcA 0 5,fcA 5 8,fcA 2 3]
set_option maxRecDepth 100000 in
theorem xFg:XF Tryz.prog EAd Tryz.f14 (Tryz.f14.body.getD .skip) [lA]=some (.list 3 [fcA 0 8,fcA 2 3]):=by kernel_rfl
theorem xFH:XF Tryz.prog EAd Tryz.f16 (Tryz.f16.body.getD .skip) [lA]=some (.list 3 [fcA 0 8]):=by kernel_rfl
theorem xFz:OcOk Tryz.prog ITryz 14 (ptO [lA] (.list 3 [fcA 0 8,fcA 2 3])):=xws (xm4 Tryz.func14 rfl (by kernel_rfl) xFg)
theorem xFF:OcOk Tryz.prog ITryz 16 (ptO [lA] (.list 3 [fcA 0 8])):=xws (xm4 Tryz.func16 rfl (by kernel_rfl) xFH)
def resA:AV:=.list 3 [fcA 2 5,fcA 5 6,fcA 2 3]
theorem xFI:XF Tryz.prog EAd Tryz.f14 (Tryz.f14.body.getD .skip) [resA]=some (.list 3 [fcA 2 3,fcA 2 6]):=by kernel_rfl
theorem xFp:OcOk Tryz.prog ITryz 14 (ptO [resA] (.list 3 [fcA 2 3,fcA 2 6])):=xws (xm4 Tryz.func14 rfl (by kernel_rfl) xFI)
theorem xFL:XF Tryz.prog EAd Tryz.f21 (Tryz.f21.body.getD .skip) [lA]=some (.list 1 [.int .i64 0,.int .i64 2,.int .i64 3,.int .i64 5,.int .i64 8]):=by kernel_rfl
theorem xFC:OcOk Tryz.prog ITryz 21 (ptO [lA] (.list 1 [.int .i64 0,.int .i64 2,.int .i64 3,.int .i64 5,.int .i64 8])):=xws (xm4 Tryz.func21 rfl (by kernel_rfl) xFL)
noncomputable def EAt:Env:=(((EAs.with 14 (ptO [lA] (.list 3 [fcA 0 8,fcA 2 3]))).with 14 (ptO [resA] (.list 3 [fcA 2 3,fcA 2 6]))).with 16 (ptO [lA] (.list 3 [fcA 0 8]))).with 21 (ptO [lA] (.list 1 [.int .i64 0,.int .i64 2,.int .i64 3,.int .i64 5,.int .i64 8]))
theorem xFe:OrcOk Tryz.prog ITryz EAt:=(((xCm.with xFz).with xFp).with xFF).with xFC
noncomputable def EAe:Env:={ Env.deep Tryz.prog mmA EAt 14 with pin:=0 }
theorem xE6:XF Tryz.prog EAe Tryz.f12 (Tryz.f12.body.getD .skip) []=some (.bool true):=by kernel_rfl
def xuo:List AV→Option (Bool×AV)
 | []=>some (true,.bool true)
 | _=>none
theorem xEv:OcOk Tryz.prog ITryz 12 xuo:=fun xs r h=>by
 unfold xuo at h;split at h
 · simp only [Option.some.injEq,Prod.mk.injEq,true_and] at h;subst h
   have hd:=xl5 mxTryz mmA (inv0Ok Tryz.prog 0) xFe (fun _=>rfl) 14
   exact xaL (p:=0) (xaW mxTryz (inv0Ok Tryz.prog _) rfl (xnm hd) Tryz.func12 rfl (by kernel_rfl) (xlr fun _=>rfl) xE6)
 · simp at h
end Go.Sim.M
end
noncomputable section
namespace Go.Sim.M
open Go.IntKind (i64 u64 u8)
open Go.RowKit Go.Proofs
def EKA:Env:=EKR3.with 12 xuo
theorem xyf:OrcOk Tryz.prog ITryz EKA:=xES.with xEv
end Go.Sim.M
end
noncomputable section
set_option maxRecDepth 100000
namespace Go.Sim.M
open Go.IntKind (i64 u64 u8)
open Go.RowKit Go.Proofs
def xg1:Env:=EKA.fn 23 0 (lsOf []) (lpsOf [])
theorem xtN:OrcOk Tryz.prog (ITryz.at 0) xg1:=xyf.fn
theorem xpx:LoOk Tryz.prog (ITryz.at xg1.pin) xg1 (loopAt Tryz.f40 0):=xaF (by kernel_rfl)
def xhd {T:Type} (l:LA) (i:Int) (δ:T) (κl:(Int)→T) (κr:(Bool×(Bool)×(Unit))→T):T:=br (decide (i<l.length)) (br (decide (0≤i)&&decide (i<l.length)) (br (decide (i.toNat<l.length)&&hasSh1 (Sh.list 3) ((l.getD i.toNat .top).cells.getD 0 .top)) (br (decide ((↑((l.getD i.toNat .top).cells.getD 0 .top).toList.length:Int)>60)) (κr (true,(false),())) (κl (i64.wrap (i+1)))) δ) δ) (κr (false,false,()))
def xbN (l:LA):(Int)→Option ((Int)⊕(Bool×(Bool)×(Unit))):=fun (i)=>xhd l i none (fun s=>some (.inl s)) (fun p=>some (.inr p))
def xfD (l:LA):(Int)→LA×List Box:=fun (i)=>([AV.list 3 l,AV.int .i64 i],[])
def xeG (l:LA):(Bool×(Bool)×(Unit))→LR:=fun p=>(.node p.1 (.leaf .ret [AV.bool p.2.1] []) (.leaf (.exit 0) [.top] []))
abbrev xu1 (a:LA) (H:List Box):=XR Tryz.prog xg1 [0,5] [4] [] (loopAt Tryz.f40 0) a H
theorem xuM (l:LA) (i:Int):Enc (encR (xfD l) (xeG l)) (xbN l i) (xu1 (xfD l i).1 (xfD l i).2):=by
 refine eV (xhd l i none (fun s=>some (encR (xfD l) (xeG l) (.inl s))) (fun p=>some (encR (xfD l) (xeG l) (.inr p)))) (by kernel_rfl) ?_;unfold xbN xhd;repeat' first|exact eN|exact eS rfl|apply eB
def xnd:Lp:=lpOf [0,5] [4] [] (pCons (pList 3 pAny) (pCons (pInt .i64) pNil)) pNil fun (l,(i,_)) _=>((Iter (xbN l) (i)).isSome,xeG l ((Iter (xbN l) (i)).getD (false,false,())))
theorem xsT:LoopOk Tryz.prog (ITryz.at xg1.pin) xg1.nt (loopAt Tryz.f40 0) xnd:=xbr fun b d e c=>by
 obtain ⟨l,⟨i,_⟩⟩:=b
 obtain ⟨a,rfl⟩:=Prod.mk.inj c
 exact xaH mxTryz (inv0Ok Tryz.prog _) rfl xtN xpx (xfD l) (xeG l) (fun p=>by simp only [xeG,LR.eval];first|(simp;done)|(repeat' split<;>simp)) (xuM l) (s:=(i)) (xah a)
def xii:Env:=EKA.fn 23 0 (lsOf []) (lpsOf [(4,xnd)])
theorem xtB:OrcOk Tryz.prog (ITryz.at 0) xii:=xyf.fn
theorem xrG:LoOk Tryz.prog (ITryz.at xii.pin) xii (Tryz.f40.body.getD .skip):=xbd (ls:=[loopAt Tryz.f40 0]) (by kernel_rfl) (lkC xsT lkN)
def xk4 {T:Type} (l:LA) (a:Int) (δ:T) (κ:Bool→T):T:=br (decide ((↑l.length:Int)>a)) (κ (false)) (br ((Iter (xbN l) 0).isSome) (br (((Iter (xbN l) 0).getD (false,false,())).fst) (κ (((Iter (xbN l) 0).getD (false,false,())).snd.fst)) (κ (true))) δ)
def xhs (l:LA) (a:Int):Option (Bool):=xk4 l a none some
theorem xy0 (l:LA) (a:Int):Enc (fun (p:Bool)=>((AV.bool p):AV)) (xhs l a) (XF Tryz.prog xii Tryz.f40 (Tryz.f40.body.getD .skip) [AV.list 3 l,AV.int .i64 a]):=by
 refine eV (xk4 l a none (fun (p:Bool)=>some ((AV.bool p):AV))) (by kernel_rfl) ?_;unfold xhs xk4;repeat' first|exact eN|exact eS rfl|apply eB
def xse:LA→Option (Bool×AV):=ocOf (sCons (sList 3 pAny) (sCons (sEq (pInt .i64)) sNil)) fun (l,(a,_))=>((xhs l a).isSome,(AV.bool ((xhs l a).getD false)))
theorem xy7:OcOk Tryz.prog ITryz 40 (xse):=xax fun c g e=>by
 obtain ⟨l,⟨f,_⟩⟩:=c
 obtain ⟨a,b⟩:=Prod.mk.inj e
 refine xaL (p:=xii.pin) (xaW mxTryz (inv0Ok Tryz.prog _) rfl xtB Tryz.func40 rfl (by kernel_rfl) xrG ((xy0 _ _ _ (xah (d:=false) a)).trans ?_))
 exact congrArg some b
def xAt:Env:=EKA.with 40 xse
theorem xwI:OrcOk Tryz.prog ITryz xAt:=xyf.with xy7
def xir:Env:=xAt.fn 5 0 (lsOf []) (lpsOf [])
theorem xtn:OrcOk Tryz.prog (ITryz.at 0) xir:=xwI.fn
theorem xrP:LoOk Tryz.prog (ITryz.at xir.pin) xir (Tryz.f11.body.getD .skip):=xaF (by kernel_rfl)
def xk8 {T:Type} (l:LA) (δ:T) (κ:Bool→T):T:=br ((xhs l 24).isSome) (κ ((xhs l 24).getD false)) δ
def xhr (l:LA):Option (Bool):=xk8 l none some
theorem xy8 (l:LA):Enc (fun (p:Bool)=>((AV.bool p):AV)) (xhr l) (XF Tryz.prog xir Tryz.f11 (Tryz.f11.body.getD .skip) [AV.list 3 l]):=by
 refine eV (xk8 l none (fun (p:Bool)=>some ((AV.bool p):AV))) (by kernel_rfl) ?_;unfold xhr xk8;repeat' first|exact eN|exact eS rfl|apply eB
def xsd:LA→Option (Bool×AV):=ocOf (sCons (sList 3 pAny) sNil) fun (l,_)=>((xhr l).isSome,(AV.bool ((xhr l).getD false)))
theorem xyL:OcOk Tryz.prog ITryz 11 (xsd):=xax fun c f e=>by
 obtain ⟨l,_⟩:=c
 obtain ⟨a,b⟩:=Prod.mk.inj e
 refine xaL (p:=xir.pin) (xaW mxTryz (inv0Ok Tryz.prog _) rfl xtn Tryz.func11 rfl (by kernel_rfl) xrP ((xy8 _ _ (xah (d:=false) a)).trans ?_))
 exact congrArg some b
def xEk:Env:=xAt.with 11 xsd
theorem xC3:OrcOk Tryz.prog ITryz xEk:=xwI.with xyL
abbrev xEl:Env:=xEk
theorem xDE:OrcOk Tryz.prog ITryz xEl:=xC3
def xeq:Env:=xEl.fn 35 0 (lsOf []) (lpsOf [])
theorem xn2:OrcOk Tryz.prog (ITryz.at 0) xeq:=xDE.fn
theorem xmm:LoOk Tryz.prog (ITryz.at xeq.pin) xeq (Tryz.f10.body.getD .skip):=xaF (by kernel_rfl)
def xgC {T:Type} (l:LA) (t:Int) (a:LA) (δ:T) (κ:Bool→T):T:=br ((xhr l).isSome) (br (!(xhr l).getD false) (κ (true)) (br (decide ((↑a.length:Int)>60)) (κ (true)) (br ((xeL l t).isSome) (br ((xhA l t).isSome) (br ((xdL ((xeL l t).getD []) ((xhA l t).getD [])).isSome) (br ((xdL ((xeL l t).getD []) ((xhA l t).getD [])).getD false) (br ((xcQ l a).isSome) (br ((xdS l a).isSome) (br ((xgi ((xcQ l a).getD []) ((xdS l a).getD [])).isSome) (br ((xgi ((xcQ l a).getD []) ((xdS l a).getD [])).getD false) (κ (true)) (κ (false))) δ) δ) δ) (κ (false))) δ) δ) δ))) δ
def xdD (l:LA) (t:Int) (a:LA):Option (Bool):=xgC l t a none some
theorem xqS (l:LA) (t:Int) (a:LA):Enc (fun (p:Bool)=>((AV.bool p):AV)) (xdD l t a) (XF Tryz.prog xeq Tryz.f10 (Tryz.f10.body.getD .skip) [AV.list 3 l,AV.int .i64 t,AV.list 3 a]):=by
 refine eV (xgC l t a none (fun (p:Bool)=>some ((AV.bool p):AV))) (by kernel_rfl) ?_;unfold xdD xgC;repeat' first|exact eN|exact eS rfl|apply eB
def xqk:LA→Option (Bool×AV):=ocOf (sCons (sList 3 pAny) (sCons (sEq (pInt .i64)) (sCons (sList 3 pAny) sNil))) fun (l,(t,(a,_)))=>((xdD l t a).isSome,(AV.bool ((xdD l t a).getD false)))
theorem xqX:OcOk Tryz.prog ITryz 10 (xqk):=xax fun c g e=>by
 obtain ⟨l,⟨t,⟨f,_⟩⟩⟩:=c
 obtain ⟨a,b⟩:=Prod.mk.inj e
 refine xaL (p:=xeq.pin) (xaW mxTryz (inv0Ok Tryz.prog _) rfl xn2 Tryz.func10 rfl (by kernel_rfl) xmm ((xqS _ _ _ _ (xah (d:=false) a)).trans ?_))
 exact congrArg some b
end Go.Sim.M
end
