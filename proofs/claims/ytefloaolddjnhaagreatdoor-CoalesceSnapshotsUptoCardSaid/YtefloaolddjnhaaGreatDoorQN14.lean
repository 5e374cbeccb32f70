/- Part 14 of the proof: SrtE, E1, KP1, KP2, Lset, KP3, KP4, KP5, KV, KQ, KR1, KJ, KR2, KR3, Awz, KA, KL. -/
import Derived.Test.YtefloaolddjnhaaGreatDoorQN13
import Derived.StillTailTactics
set_option linter.unusedVariables false
set_option linter.unusedSimpArgs false
set_option linter.unnecessarySimpa false
set_option linter.unusedSectionVars false
noncomputable section
set_option maxRecDepth 100000
namespace Go.Sim.M
def cmpI (x y:Int):Int:=if x<y then -1 else if y<x then 1 else 0
def orI (x y:Int):Int:=if x=0 then y else x
end Go.Sim.M
namespace Go.Proofs
open Go.RowKit Go.Sim Go.Sim.M Go.Sort Go.Lib
theorem Tryz.cmp_walk (x y:Int) (w:World):Calls Tryz.prog 54 #[.int .i64 x,.int .i64 y] w fun e w'=>e=.returned (.int .i64 (cmpI x y))∧w'=w:=by
 unfold cmpI
 go_enter Tryz.func54,Tryz.ntmps54
 go_wp2
 all_goals (go_ret;exact ⟨rfl,rfl⟩)
theorem Tryz.or_walk (x y:Int) (b off c:Nat) (w:World) (h0:w.cell? ⟨b,off,none⟩=some (.int .i64 x)) (h1:w.cell? ⟨b,off+1,none⟩=some (.int .i64 y)):Calls Tryz.prog 71 #[.slice (some ⟨b,off,none⟩) 2 c] w fun e w'=>e=.returned (.int .i64 (orI x y))∧w'=w:=by
 unfold orI
 by_cases hx:x=0
 · subst hx
   rw [if_pos rfl]
   by_cases hy:y=0
   · subst hy
     go_enter Tryz.func71,Tryz.ntmps71
     go_wp2
     refine wp_loop_rounds 3 ?_
     rw [rounds_succ]
     go_wp2
     rw [rounds_succ]
     go_wp2
     rw [rounds_succ]
     go_wp2
     go_ret
     exact ⟨rfl,rfl⟩
   · have hy':(y != 0)=true:=by simpa using hy
     go_enter Tryz.func71,Tryz.ntmps71
     go_wp2
     refine wp_loop_rounds 3 ?_
     rw [rounds_succ]
     go_wp2
     rw [rounds_succ]
     go_wp2
     go_ret
     exact ⟨rfl,rfl⟩
 · have hx':(x != 0)=true:=by simpa using hx
   rw [if_neg hx]
   go_enter Tryz.func71,Tryz.ntmps71
   go_wp2
   refine wp_loop_rounds 3 ?_
   rw [rounds_succ]
   go_wp2
   go_ret
   exact ⟨rfl,rfl⟩
theorem fill2I (u1 u2:Int):Instr.fill (fun i=>some (i*1,1)) ((Array.range (2*1)).map (fun x=>(Value.int .i64 0).cells[x % (Value.int .i64 0).cells.size]!)) [(0,.int .i64 u1),(1,.int .i64 u2)]=some #[.int .i64 u1,.int .i64 u2]:=by
 simp [Instr.fill,Array.range,Value.cells]
 apply Array.ext
 · simp
 · intro i h1 h2
   rcases i with _|_|i
   · simp
   · simp
   · simp at h2;omega
set_option maxHeartbeats 2000000 in
theorem Tryz.levels2_walk (a b c d:Int) (w:World):Calls Tryz.prog 70 #[.agg #[.int .i64 a,.int .i64 b],.agg #[.int .i64 c,.int .i64 d]] w fun e w'=>e=.returned (.int .i64 (orI (cmpI a c) (cmpI b d)))∧∃ q os',w'=Sort.grow (w.drewN q) os':=by
 go_enter Tryz.func70,Tryz.ntmps70
 go_wp2_with (go_at_call 54;skip)
 have g0:(w.alloc (.cells #[.int .i64 a,.int .i64 b] 31)).heap[w.heap.size]?=some (.cells #[.int .i64 a,.int .i64 b] 31 (0,0)):=heap_alloc_new w _
 have g1:((w.alloc (.cells #[.int .i64 a,.int .i64 b] 31)).alloc (.cells #[.int .i64 c,.int .i64 d] 31)).heap[w.heap.size+1]?=some (.cells #[.int .i64 c,.int .i64 d] 31 (0,0)):=by
  have:=heap_alloc_new (w.alloc (.cells #[.int .i64 a,.int .i64 b] 31)) (.cells #[.int .i64 c,.int .i64 d] 31)
  have e:(w.alloc (.cells #[.int .i64 a,.int .i64 b] 31)).heap.size=w.heap.size+1:=by simp
  rwa [e] at this
 have f0:((w.alloc (.cells #[.int .i64 a,.int .i64 b] 31)).alloc (.cells #[.int .i64 c,.int .i64 d] 31)).cell? ⟨w.heap.size,0,none⟩=some (.int .i64 a):=by
  rw [World.cell?_alloc_past _ _ _ (by simp)];simp only [World.cell?,g0];rfl
 have f1:((w.alloc (.cells #[.int .i64 a,.int .i64 b] 31)).alloc (.cells #[.int .i64 c,.int .i64 d] 31)).cell? ⟨w.heap.size,1,none⟩=some (.int .i64 b):=by
  rw [World.cell?_alloc_past _ _ _ (by simp)];simp only [World.cell?,g0];rfl
 have f2:((w.alloc (.cells #[.int .i64 a,.int .i64 b] 31)).alloc (.cells #[.int .i64 c,.int .i64 d] 31)).cell? ⟨w.heap.size+1,0,none⟩=some (.int .i64 c):=by
  simp only [World.cell?,g1];rfl
 have f3:((w.alloc (.cells #[.int .i64 a,.int .i64 b] 31)).alloc (.cells #[.int .i64 c,.int .i64 d] 31)).cell? ⟨w.heap.size+1,1,none⟩=some (.int .i64 d):=by
  simp only [World.cell?,g1];rfl
 have f4:∃ q os',((w.alloc (.cells #[.int .i64 a,.int .i64 b] 31)).alloc (.cells #[.int .i64 c,.int .i64 d] 31))=Sort.grow (w.drewN q) os':=⟨0,_,by rw [alloc_eq_grow,alloc_eq_grow,grow_grow];rfl⟩
 generalize ((w.alloc (.cells #[.int .i64 a,.int .i64 b] 31)).alloc (.cells #[.int .i64 c,.int .i64 d] 31))=W2 at f0 f1 f2 f3 f4 ⊢
 refine wp_region_still_tail 10 (by kernel_rfl) (by kernel_rfl) ?_
 simp only [List.take_succ_cons,List.take_zero,List.drop_succ_cons,List.drop_zero]
 change wpStill _ _ (World.drew W2) _ _ _
 have f0':W2.drew.cell? ⟨w.heap.size,0,none⟩=some (.int .i64 a):=f0
 have f1':W2.drew.cell? ⟨w.heap.size,1,none⟩=some (.int .i64 b):=f1
 have f2':W2.drew.cell? ⟨w.heap.size+1,0,none⟩=some (.int .i64 c):=f2
 have f3':W2.drew.cell? ⟨w.heap.size+1,1,none⟩=some (.int .i64 d):=f3
 have f4':∃ q os',W2.drew=Sort.grow (w.drewN q) os':=by obtain ⟨q,os',e⟩:=f4;exact ⟨q+1,os',by rw [e];rfl⟩
 iterate 4 still_step
 still_call (Tryz.cmp_walk _ _ _)
 iterate 4 still_step
 still_call (Tryz.cmp_walk _ _ _)
 refine wpStill_nil ?_
 change wpList _ _ _ _ _ (World.drew W2)
 generalize World.drew W2=W at f0' f1' f2' f3' f4' ⊢
 generalize hu1:cmpI a c=u1
 generalize hu2:cmpI b d=u2
 obtain ⟨ie,q1,q2,q3⟩:∃ ie,Tryz.prog.info? 3=some ie∧ie.zero=some (.int .i64 0)∧ie.size=1:=⟨(Tryz.prog.info? 3).get (by kernel_rfl),(Option.some_get _).symm,by kernel_rfl,by kernel_rfl⟩
 refine wpList_buildSlice rfl 28 3 2 _ rfl #[.int .i64 u1,.int .i64 u2] ie (.int .i64 0) (by kernel_rfl) q1 q2 (by rw [q3];decide) (by rw [q3];decide) (by rw [q3];refine Eq.trans (congrArg _ ?_) (fill2I u1 u2);simp [Act.eval]) ?_
 simp only [Act.put]
 go_wp2_with fail
 have g2:(W.alloc (.cells #[.int .i64 u1,.int .i64 u2] 3)).heap[W.heap.size]?=some (.cells #[.int .i64 u1,.int .i64 u2] 3 (0,0)):=heap_alloc_new W _
 refine (Tryz.or_walk u1 u2 W.heap.size 0 2 (W.alloc (.cells #[.int .i64 u1,.int .i64 u2] 3)) (by simp only [World.cell?,g2];rfl) (by simp only [World.cell?,g2];rfl)).mono ?_
 rintro e w' ⟨rfl,rfl⟩
 go_wp2
 go_ret
 obtain ⟨q,os',hq⟩:=f4'
 exact ⟨by rw [hu1,hu2];rfl,q,_,by rw [hq,alloc_eq_grow,grow_grow]⟩
end Go.Proofs
namespace Go.Sim.M
abbrev TyE:Type:=Fin 1099511627777×Int×Int
def intsE (x:TyE):List Int:=[(x.1.val:Int),x.2.1,x.2.2]
def cmpE (x y:TyE):Int:=(x.1.val:Int) - (y.1.val:Int)
end Go.Sim.M
namespace Go.Proofs
open Go.RowKit Go.Sim Go.Sim.M Go.Sort
set_option maxHeartbeats 1000000 in
theorem Tryz.walkE (a b c a' b' c' r:Int) (hr:IntKind.i64.wrap (a - a')=r) (W:World):Calls Tryz.prog 130 #[.agg #[.int .i64 a,.int .i64 b,.int .i64 c],.agg #[.int .i64 a',.int .i64 b',.int .i64 c']] W fun e w'=>e=.returned (.int .i64 r)∧∃ q os',w'=Sort.grow (W.drewN q) os':=by
 go_enter Tryz.func130,Tryz.ntmps130
 go_wp2
 go_ret
 subst hr
 exact ⟨rfl,0,_,by rw [alloc_eq_grow,alloc_eq_grow,grow_grow];rfl⟩
end Go.Proofs
namespace Go.Sim.M
open Go.RowKit Go.Proofs Go.Sort
def isE:AV→Bool
 | .agg [.int .i64 a,.int .i64 _,.int .i64 _]=>decide (0≤a)&&decide (a≤1099511627776)
 | _=>false
def decE:AV→TyE
 | .agg [.int _ a,.int _ b,.int _ c]=>(Fin.ofNat 1099511627777 a.toNat,b,c)
 | _=>default
noncomputable def srtE (xs:List AV):List AV:=(pdqL cmpE (xs.map decE)).map (encI intsE)
theorem xOd {x:AV} (h:isE x=true):encI intsE (decE x)=x:=by
 unfold isE at h
 split at h
 · rename_i a b c
   simp only [Bool.and_eq_true,decide_eq_true_eq] at h
   have:a.toNat % 1099511627777=a.toNat:=Nat.mod_eq_of_lt (by omega)
   simp only [decE,encI,intsE,List.map_cons,List.map_nil,Fin.ofNat,this,Int.toNat_of_nonneg h.1]
 · simp at h
theorem xL8 {xs:List AV} (h:xs.all isE=true):(xs.map decE).map (encI intsE)=xs:=by
 rw [List.map_map]
 conv=>rhs;rw [←List.map_id xs]
 refine List.map_congr_left fun x hx=>?_
 exact xOd (List.all_eq_true.1 h x hx)
theorem ltE (x y:TyE):ltOf cmpE x y=decide (x.1.val<y.1.val):=by
 unfold ltOf cmpE
 by_cases h:x.1.val<y.1.val
 · rw [decide_eq_true h,decide_eq_true (by omega)]
 · rw [decide_eq_false h,decide_eq_false (by omega)]
theorem swoE:SWO (ltOf cmpE) where
 irrefl x:=by rw [ltE];simp
 trans x y z h1 h2:=by rw [ltE] at *;simp at *;omega
 ntrans x y z h1 h2:=by rw [ltE] at *;simp at *;omega
noncomputable def xFv:List AV→List Box→Option (Bool×AV×List Box)
 | [.osl (.b 0) ver 0 n,.func g []],[⟨ver',3,ty,xs,false,true⟩]=>match Nat.beq g 130&&Nat.beq ty 117 with
  | true=>some (Nat.beq ver ver'&&(Nat.beq n xs.length&&(decide (n<4611686018427387904)&&xs.all isE)),.tuple [],[⟨ver',3,117,srtE xs,false,true⟩])
  | false=>none
 | _,_=>none
theorem xPL:OmOk Tryz.prog ITryz 129 xFv:=fun ass H r H' h=>by
 unfold xFv at h
 split at h
 · rename_i ver n g ver' ty xs
   split at h
   case h_2=>simp at h
   rename_i hg
   simp only [Bool.and_eq_true] at hg
   obtain rfl:=Nat.eq_of_beq_eq_true hg.1
   obtain rfl:=Nat.eq_of_beq_eq_true hg.2
   simp only [Option.some.injEq,Prod.mk.injEq,Bool.and_eq_true,decide_eq_true_eq] at h
   obtain ⟨⟨h1,h2,h3,h4⟩,rfl,rfl⟩:=h
   obtain rfl:=Nat.eq_of_beq_eq_true h1
   obtain rfl:=Nat.eq_of_beq_eq_true h2
   have hti:∃ ti,tinfo Tryz.prog 117=some ti∧ti.sz=3∧ti.agg=true:=by
    have h:(match tinfo Tryz.prog 117 with|some ti=>(ti.sz==3)&&ti.agg|none=>false)=true:=by kernel_rfl
    split at h
    · rename_i ti hti
      simp only [Bool.and_eq_true,beq_iff_eq] at h
      exact ⟨ti,hti,h.1,h.2⟩
    · simp at h
   obtain ⟨ti,hti,hz,ha⟩:=hti
   have hgd:=xtE (P:=Tryz.prog) (Inv:=ITryz) Tryz.srl129 3 (by decide) (fun w=>by rw [←ha];exact xob hti w) (fun w=>by rw [←hz];exact xgl hti w)
    intsE (fun _=>rfl) cmpE swoE 130 (xfO Tryz.func129 rfl (by kernel_rfl)) (xnS (xfO Tryz.func130 rfl (by kernel_rfl)))
    (fun x y W=>Tryz.walkE _ _ _ _ _ _ (cmpE x y) (by
     have:=x.1.isLt
     have:=y.1.isLt
     unfold cmpE
     exact xe1 (by omega) (by omega)) W)
    ver 117 rfl (xs.map decE) (by simpa using h3)
   rw [List.length_map,xL8 h4] at hgd
   exact hgd
 · simp at h
end Go.Sim.M
namespace Go.Sim.M
abbrev TyS:Type:=Fin 1099511627777×Int
def intsS (x:TyS):List Int:=[(x.1.val:Int),x.2]
def cmpS (x y:TyS):Int:=(x.1.val:Int) - (y.1.val:Int)
end Go.Sim.M
namespace Go.Proofs
open Go.RowKit Go.Sim Go.Sim.M Go.Sort
set_option maxHeartbeats 1000000 in
theorem Tryz.walkS (a b a' b' r:Int) (hr:IntKind.i64.wrap (a - a')=r) (W:World):Calls Tryz.prog 96 #[.agg #[.int .i64 a,.int .i64 b],.agg #[.int .i64 a',.int .i64 b']] W fun e w'=>e=.returned (.int .i64 r)∧∃ q os',w'=Sort.grow (W.drewN q) os':=by
 go_enter Tryz.func96,Tryz.ntmps96
 go_wp2
 go_ret
 subst hr
 exact ⟨rfl,0,_,by rw [alloc_eq_grow,alloc_eq_grow,grow_grow];rfl⟩
end Go.Proofs
namespace Go.Sim.M
open Go.RowKit Go.Proofs Go.Sort
def isS:AV→Bool
 | .agg [.int .i64 a,.int .i64 _]=>decide (0≤a)&&decide (a≤1099511627776)
 | _=>false
def decS:AV→TyS
 | .agg [.int _ a,.int _ b]=>(Fin.ofNat 1099511627777 a.toNat,b)
 | _=>default
noncomputable def srtS (xs:List AV):List AV:=(pdqL cmpS (xs.map decS)).map (encI intsS)
theorem xNW {x:AV} (h:isS x=true):encI intsS (decS x)=x:=by
 unfold isS at h
 split at h
 · rename_i a b
   simp only [Bool.and_eq_true,decide_eq_true_eq] at h
   have:a.toNat % 1099511627777=a.toNat:=Nat.mod_eq_of_lt (by omega)
   simp only [decS,encI,intsS,List.map_cons,List.map_nil,Fin.ofNat,this,Int.toNat_of_nonneg h.1]
 · simp at h
theorem xLx {xs:List AV} (h:xs.all isS=true):(xs.map decS).map (encI intsS)=xs:=by
 rw [List.map_map]
 conv=>rhs;rw [←List.map_id xs]
 refine List.map_congr_left fun x hx=>?_
 exact xNW (List.all_eq_true.1 h x hx)
theorem ltS (x y:TyS):ltOf cmpS x y=decide (x.1.val<y.1.val):=by
 unfold ltOf cmpS
 by_cases h:x.1.val<y.1.val
 · rw [decide_eq_true h,decide_eq_true (by omega)]
 · rw [decide_eq_false h,decide_eq_false (by omega)]
theorem swoS:SWO (ltOf cmpS) where
 irrefl x:=by rw [ltS];simp
 trans x y z h1 h2:=by rw [ltS] at *;simp at *;omega
 ntrans x y z h1 h2:=by rw [ltS] at *;simp at *;omega
noncomputable def xE1:List AV→List Box→Option (Bool×AV×List Box)
 | [.osl (.b 0) ver 0 n,.func g []],[⟨ver',2,ty,xs,false,true⟩]=>match Nat.beq g 96&&Nat.beq ty 75 with
  | true=>some (Nat.beq ver ver'&&(Nat.beq n xs.length&&(decide (n<4611686018427387904)&&xs.all isS)),.tuple [],[⟨ver',2,75,srtS xs,false,true⟩])
  | false=>none
 | _,_=>none
theorem xPI:OmOk Tryz.prog ITryz 95 xE1:=fun ass H r H' h=>by
 unfold xE1 at h
 split at h
 · rename_i ver n g ver' ty xs
   split at h
   case h_2=>simp at h
   rename_i hg
   simp only [Bool.and_eq_true] at hg
   obtain rfl:=Nat.eq_of_beq_eq_true hg.1
   obtain rfl:=Nat.eq_of_beq_eq_true hg.2
   simp only [Option.some.injEq,Prod.mk.injEq,Bool.and_eq_true,decide_eq_true_eq] at h
   obtain ⟨⟨h1,h2,h3,h4⟩,rfl,rfl⟩:=h
   obtain rfl:=Nat.eq_of_beq_eq_true h1
   obtain rfl:=Nat.eq_of_beq_eq_true h2
   have hti:∃ ti,tinfo Tryz.prog 75=some ti∧ti.sz=2∧ti.agg=true:=by
    have h:(match tinfo Tryz.prog 75 with|some ti=>(ti.sz==2)&&ti.agg|none=>false)=true:=by kernel_rfl
    split at h
    · rename_i ti hti
      simp only [Bool.and_eq_true,beq_iff_eq] at h
      exact ⟨ti,hti,h.1,h.2⟩
    · simp at h
   obtain ⟨ti,hti,hz,ha⟩:=hti
   have hgd:=xtE (P:=Tryz.prog) (Inv:=ITryz) Tryz.srl95 2 (by decide) (fun w=>by rw [←ha];exact xob hti w) (fun w=>by rw [←hz];exact xgl hti w)
    intsS (fun _=>rfl) cmpS swoS 96 (xfO Tryz.func95 rfl (by kernel_rfl)) (xnS (xfO Tryz.func96 rfl (by kernel_rfl)))
    (fun x y W=>Tryz.walkS _ _ _ _ (cmpS x y) (by
     have:=x.1.isLt
     have:=y.1.isLt
     unfold cmpS
     exact xe1 (by omega) (by omega)) W)
    ver 75 rfl (xs.map decS) (by simpa using h3)
   rw [List.length_map,xLx h4] at hgd
   exact hgd
 · simp at h
end Go.Sim.M
namespace Go.Sim.M
abbrev TyP:Type:=Int×Int
def intsP (x:TyP):List Int:=[x.1,x.2]
def cmpP (x y:TyP):Int:=orI (cmpI x.1 y.1) (cmpI x.2 y.2)
end Go.Sim.M
namespace Go.Sim.M
open Go.RowKit Go.Proofs Go.Sort
def isP:AV→Bool
 | .agg [.int .i64 _,.int .i64 _]=>true
 | _=>false
def decP:AV→TyP
 | .agg [.int _ a,.int _ b]=>(a,b)
 | _=>default
noncomputable def srtP (xs:List AV):List AV:=(pdqL cmpP (xs.map decP)).map (encI intsP)
theorem xNz {x:AV} (h:isP x=true):encI intsP (decP x)=x:=by
 unfold isP at h
 split at h
 · rfl
 · simp at h
theorem xLX {xs:List AV} (h:xs.all isP=true):(xs.map decP).map (encI intsP)=xs:=by
 rw [List.map_map]
 conv=>rhs;rw [←List.map_id xs]
 refine List.map_congr_left fun x hx=>?_
 exact xNz (List.all_eq_true.1 h x hx)
theorem ltP (x y:TyP):ltOf cmpP x y=decide (x.1<y.1∨x.1=y.1∧x.2<y.2):=by
 unfold ltOf cmpP orI cmpI
 by_cases h:x.1<y.1∨x.1=y.1∧x.2<y.2
 · rw [decide_eq_true h]
   simp only [decide_eq_true_eq]
   rcases h with h|⟨h,h'⟩
   · simp [h]
   · simp [h,h']
 · rw [decide_eq_false h]
   simp only [decide_eq_false_iff_not]
   have h1:¬ x.1<y.1:=fun e=>h (.inl e)
   by_cases h2:y.1<x.1
   · simp [h1,h2]
   · have h3:x.1=y.1:=by omega
     have h4:¬ x.2<y.2:=fun e=>h (.inr ⟨h3,e⟩)
     by_cases h5:y.2<x.2
     · simp [h1,h2,h4,h5]
     · simp [h1,h2,h4,h5]
theorem swoP:SWO (ltOf cmpP) where
 irrefl x:=by rw [ltP];simp
 trans x y z h1 h2:=by rw [ltP] at *;simp only [decide_eq_true_eq] at *;omega
 ntrans x y z h1 h2:=by rw [ltP] at *;simp only [decide_eq_true_eq,decide_eq_false_iff_not] at *;omega
noncomputable def xEZ:List AV→List Box→Option (Bool×AV×List Box)
 | [.osl (.b 0) ver 0 n,.func g []],[⟨ver',2,ty,xs,false,true⟩]=>match Nat.beq g 70&&Nat.beq ty 31 with
  | true=>some (Nat.beq ver ver'&&(Nat.beq n xs.length&&(decide (n<4611686018427387904)&&xs.all isP)),.tuple [],[⟨ver',2,31,srtP xs,false,true⟩])
  | false=>none
 | _,_=>none
theorem xPD:OmOk Tryz.prog ITryz 69 xEZ:=fun ass H r H' h=>by
 unfold xEZ at h
 split at h
 · rename_i ver n g ver' ty xs
   split at h
   case h_2=>simp at h
   rename_i hg
   simp only [Bool.and_eq_true] at hg
   obtain rfl:=Nat.eq_of_beq_eq_true hg.1
   obtain rfl:=Nat.eq_of_beq_eq_true hg.2
   simp only [Option.some.injEq,Prod.mk.injEq,Bool.and_eq_true,decide_eq_true_eq] at h
   obtain ⟨⟨h1,h2,h3,h4⟩,rfl,rfl⟩:=h
   obtain rfl:=Nat.eq_of_beq_eq_true h1
   obtain rfl:=Nat.eq_of_beq_eq_true h2
   have hti:∃ ti,tinfo Tryz.prog 31=some ti∧ti.sz=2∧ti.agg=true:=by
    have h:(match tinfo Tryz.prog 31 with|some ti=>(ti.sz==2)&&ti.agg|none=>false)=true:=by kernel_rfl
    split at h
    · rename_i ti hti
      simp only [Bool.and_eq_true,beq_iff_eq] at h
      exact ⟨ti,hti,h.1,h.2⟩
    · simp at h
   obtain ⟨ti,hti,hz,ha⟩:=hti
   have hgd:=xtE (P:=Tryz.prog) (Inv:=ITryz) Tryz.srl69 2 (by decide) (fun w=>by rw [←ha];exact xob hti w) (fun w=>by rw [←hz];exact xgl hti w)
    intsP (fun _=>rfl) cmpP swoP 70 (xfO Tryz.func69 rfl (by kernel_rfl)) (xnS (xfO Tryz.func70 rfl (by kernel_rfl)))
    (fun x y W=>Tryz.levels2_walk _ _ _ _ W)
    ver 31 rfl (xs.map decP) (by simpa using h3)
   rw [List.length_map,xLX h4] at hgd
   exact hgd
 · simp at h
end Go.Sim.M
namespace Go.Sim.M
open Go.RowKit Go.Proofs Go.Sort
def isI:AV→Bool
 | .int .i64 _=>true
 | _=>false
noncomputable def srtI (xs:List AV):List AV:=(pdqL cmpI (xs.map AV.toInt)).map (AV.int .i64)
theorem xNw {xs:List AV} (h:xs.all isI=true):(xs.map AV.toInt).map (AV.int .i64)=xs:=by
 rw [List.map_map]
 conv=>rhs;rw [←List.map_id xs]
 refine List.map_congr_left fun x hx=>?_
 have:=List.all_eq_true.1 h x hx
 unfold isI at this
 split at this
 · rfl
 · simp at this
theorem ltI (x y:Int):ltOf cmpI x y=decide (x<y):=by
 unfold ltOf cmpI
 by_cases h:x<y
 · simp [h]
 · by_cases h2:y<x<;>simp [h,h2]
theorem swoI:SWO (ltOf cmpI) where
 irrefl x:=by rw [ltI];simp
 trans x y z h1 h2:=by rw [ltI] at *;simp at *;omega
 ntrans x y z h1 h2:=by rw [ltI] at *;simp at *;omega
noncomputable def xFb:List AV→List Box→Option (Bool×AV×List Box)
 | [.osl (.b 0) ver 0 n,.func g []],[⟨ver',1,ty,xs,false,true⟩]=>match Nat.beq g 54&&Nat.beq ty 3 with
  | true=>some (Nat.beq ver ver'&&(Nat.beq n xs.length&&(decide (n<4611686018427387904)&&xs.all isI)),.tuple [],[⟨ver',1,3,srtI xs,false,true⟩])
  | false=>none
 | _,_=>none
theorem xPw:OmOk Tryz.prog ITryz 53 xFb:=fun ass H r H' h=>by
 unfold xFb at h
 split at h
 · rename_i ver n g ver' ty xs
   split at h
   case h_2=>simp at h
   rename_i hg
   simp only [Bool.and_eq_true] at hg
   obtain rfl:=Nat.eq_of_beq_eq_true hg.1
   obtain rfl:=Nat.eq_of_beq_eq_true hg.2
   simp only [Option.some.injEq,Prod.mk.injEq,Bool.and_eq_true,decide_eq_true_eq] at h
   obtain ⟨⟨h1,h2,h3,h4⟩,rfl,rfl⟩:=h
   obtain rfl:=Nat.eq_of_beq_eq_true h1
   obtain rfl:=Nat.eq_of_beq_eq_true h2
   have hgd:=xFH (P:=Tryz.prog) (Inv:=ITryz) Tryz.srl53 cmpI swoI 54 (xfO Tryz.func53 rfl (by kernel_rfl)) (xnS (xfO Tryz.func54 rfl (by kernel_rfl)))
    (fun x y W=>(Tryz.cmp_walk x y W).mono fun e w' ⟨h1,h2⟩=>⟨h1,0,#[],by rw [h2];exact (grow_empty _).symm⟩)
    ver 3 rfl (xs.map AV.toInt) (by simpa using h3)
   rw [List.length_map,xNw h4] at hgd
   exact hgd
 · simp at h
end Go.Sim.M
end
noncomputable section
namespace Go.Sim.M
open Go.RowKit Go.Proofs
noncomputable def E1:Env:=(((EKG.withM 129 xFv).withM 95 xE1).withM 69 xEZ).withM 53 xFb
theorem xOM:OrcOk Tryz.prog ITryz E1:=(((xQn.withM xPL).withM xPI).withM xPD).withM xPw
end Go.Sim.M
end
noncomputable section
set_option maxRecDepth 100000
namespace Go.Sim.M
open Go.IntKind (i64 u64 u8)
open Go.RowKit Go.Proofs
def xnQ:Env:=E1.fn 29 1 (lsOf []) (lpsOf [])
theorem xDt:OrcOk Tryz.prog (ITryz.at 1) xnQ:=xOM.fn
theorem xBN:LoOk Tryz.prog (ITryz.at xnQ.pin) xnQ (Tryz.f97.body.getD .skip):=xaD (by kernel_rfl)
def xv7 {T:Type} (k:Nat) (b n:Int) (a:LA) (δ:T) (κ:Bool×(Nat×LA)×(Nat×LA)→T):T:=br (decide ((↑k:Int)>0)) (br (decide (0≤i64.wrap ((↑k:Int) - 1))&&decide (i64.wrap ((↑k:Int) - 1)<(↑k:Int))) (br (decide (0+(i64.wrap ((↑k:Int) - 1)).toNat<a.length)&&hasSh1 (Sh.int .i64) ((a.getD (0+(i64.wrap ((↑k:Int) - 1)).toNat) .top).cells.getD 1 .top)) (br (((a.getD (0+(i64.wrap ((↑k:Int) - 1)).toNat) .top).cells.getD 1 .top).toInt==n) (κ (true,(k,a),(0,[]))) (br (k==a.length&&(decide ((k+1)*16≤140737488355328)&&decide (k+1≤4611686018427387904))) (κ (false,(0,[]),(k+1,a++[AV.agg [AV.int .i64 b,AV.int .i64 n]]))) δ)) δ) δ) (br (k==a.length&&(decide ((k+1)*16≤140737488355328)&&decide (k+1≤4611686018427387904))) (κ (false,(0,[]),(k+1,a++[AV.agg [AV.int .i64 b,AV.int .i64 n]]))) δ)
def xgq (k:Nat) (a n:Int) (b:LA):Option (Bool×(Nat×LA)×(Nat×LA)):=xv7 k a n b none some
theorem xJv (k:Nat) (a n:Int) (xs:LA):Enc (fun (p:Bool×(Nat×LA)×(Nat×LA))=>((br p.1 ((AV.osl 0 0 0 p.2.1.1,([⟨0,2,75,p.2.1.2,false,true⟩]:List Box))) ((AV.osl 0 1 0 p.2.2.1,([⟨1,2,75,p.2.2.2,false,true⟩]:List Box)))):(AV×List Box))) (xgq k a n xs) (XFM Tryz.prog xnQ Tryz.f97 (Tryz.f97.body.getD .skip) [AV.osl (0:Id) 0 0 k,AV.int .i64 a,AV.int .i64 n] [{ ver:=0,sz:=2,ty:=(75:TypeId),xs:=xs,frz:=false,pm:=true }]):=by
 refine eV (xv7 k a n xs none (fun (p:Bool×(Nat×LA)×(Nat×LA))=>some ((br p.1 ((AV.osl 0 0 0 p.2.1.1,([⟨0,2,75,p.2.1.2,false,true⟩]:List Box))) ((AV.osl 0 1 0 p.2.2.1,([⟨1,2,75,p.2.2.2,false,true⟩]:List Box)))):(AV×List Box)))) (by kernel_rfl) ?_;unfold xgq xv7;repeat' first|exact eN|exact eS rfl|apply eB
def xCt:LA→List Box→Option (Bool×AV×List Box):=omOf (sCons (sEq (pOsl 0 0 0)) (sCons (sEq (pInt .i64)) (sCons (sEq (pInt .i64)) sNil))) (pCons (pBox 0 2 (75:TypeId) false true pAny) pNil) fun (k,(a,(n,_))) (b,_)=>((xgq k a n b).isSome,(AV.osl 0 1 0 (br ((xgq k a n b).getD (false,(0,[]),(0,[]))).1 ((xgq k a n b).getD (false,(0,[]),(0,[]))).2.1.1 ((xgq k a n b).getD (false,(0,[]),(0,[]))).2.2.1),([⟨1,2,75,(br ((xgq k a n b).getD (false,(0,[]),(0,[]))).1 ((xgq k a n b).getD (false,(0,[]),(0,[]))).2.1.2 ((xgq k a n b).getD (false,(0,[]),(0,[]))).2.2.2),false,true⟩]:List Box)))
theorem xI2:OmOk Tryz.prog ITryz 97 (xCt):=xeQ fun e f j i g=>by
 obtain ⟨k,⟨b,⟨n,_⟩⟩⟩:=e
 obtain ⟨h,_⟩:=f
 obtain ⟨c,a⟩:=Prod.mk.inj g
 have hx:=xJv _ _ _ _ _ (xac (d:=(false,(0,[]),(0,[]))) c)
 revert hx a
 generalize ((xgq k b n h).getD (false,(0,[]),(0,[])))=p
 intro a hx
 obtain ⟨rfl,rfl⟩:=Prod.mk.inj a
 obtain ⟨t,⟨l,m⟩,o,q⟩:=p
 have hg:GoodM Tryz.prog ITryz 97 _ _ _ _:=xdE (p:=xnQ.pin) (xd4 mxTryz (inv0Ok Tryz.prog _) rfl xDt rfl Tryz.func97 rfl (by kernel_rfl) xBN hx)
 cases t
 · exact hg
 · exact GoodM.bump1 rfl (by decide) hg
def xuU:Env:=E1.withM 97 xCt
theorem xqb:OrcOk Tryz.prog ITryz xuU:=xOM.withM xI2
def xmO:Env:=xuU.fn 106 0 (lsOf []) (lpsOf [])
theorem xFm:OrcOk Tryz.prog (ITryz.at 0) xmO:=xqb.fn
theorem xAg:LoOk Tryz.prog (ITryz.at xmO.pin) xmO (loopAt Tryz.f72 0):=xaD (by kernel_rfl)
def xmE {T:Type} (d:LA) (e:Int) (a:Nat) (c:Int) (b:LA) (δ:T) (κl:(Nat×Int×LA)→T) (κr:(Nat×LA)→T):T:=br (decide (c<e)) (br (decide (0≤c)&&decide (c<d.length)) (br (decide (c.toNat<d.length)&&((d.getD c.toNat .top).cells.length==3&&hasShs [Sh.int .i64,Sh.int .i64,Sh.int .i64] (d.getD c.toNat .top).cells 0)) (br (xdP ((d.getD c.toNat .top).cells.getD 0 .top).toInt ((d.getD c.toNat .top).cells.getD 1 .top).toInt) (br (a==b.length&&(decide ((a+2)*16≤140737488355328)&&decide (a+2≤4611686018427387904))) (κl (a+2,i64.wrap (c+1),b++[AV.agg [AV.int .i64 ((d.getD c.toNat .top).cells.getD 0 .top).toInt,AV.int .i64 ((d.getD c.toNat .top).cells.getD 2 .top).toInt],AV.agg [AV.int .i64 ((d.getD c.toNat .top).cells.getD 1 .top).toInt,AV.int .i64 (i64.wrap (0 - ((d.getD c.toNat .top).cells.getD 2 .top).toInt))]])) δ) (κl (a,i64.wrap (c+1),b))) δ) δ) (κr (a,b))
def xeX (c:LA) (d:Int):(Nat×Int×LA)→Option ((Nat×Int×LA)⊕(Nat×LA)):=fun (b,e,a)=>xmE c d b e a none (fun s=>some (.inl s)) (fun p=>some (.inr p))
def xkE (c:LA) (d:Int):(Nat×Int×LA)→LA×List Box:=fun (b,e,a)=>([AV.osl 0 0 0 b,AV.list 3 c,AV.int .i64 d,AV.int .i64 e],[⟨0,2,75,a,false,true⟩])
def xiW (a:LA) (b:Int):(Nat×LA)→LR:=fun p=>(.leaf (.exit 0) [AV.osl 0 0 0 p.1] [⟨0,2,75,p.2,false,true⟩])
abbrev xG8 (a:LA) (H:List Box):=XR Tryz.prog xmO [3,10,11,12] [3] [(3,2,75)] (loopAt Tryz.f72 0) a H
theorem xHb (a:LA) (b:Int) (s:Nat×Int×LA):Enc (encR (xkE a b) (xiW a b)) (xeX a b s) (xG8 (xkE a b s).1 (xkE a b s).2):=by
 obtain ⟨d,e,c⟩:=s
 refine eV (xmE a b d e c none (fun s=>some (encR (xkE a b) (xiW a b) (.inl s))) (fun p=>some (encR (xkE a b) (xiW a b) (.inr p)))) (by kernel_rfl) ?_;unfold xeX xmE;repeat' first|exact eN|exact eS rfl|apply eB
def xlW:Lp:=lpOf [3,10,11,12] [3] [(3,2,75)] (pCons (pOsl 0 0 0) (pCons (pList 3 pAny) (pCons (pInt .i64) (pCons (pInt .i64) pNil)))) (pCons (pBox 0 2 75 false true pAny) pNil) fun (b,(c,(d,(e,_)))) (a,_)=>((Iter (xeX c d) (b,e,a)).isSome,xiW c d ((Iter (xeX c d) (b,e,a)).getD (0,[])))
theorem xDv:LoopOk Tryz.prog (ITryz.at xmO.pin) xmO.nt (loopAt Tryz.f72 0) xlW:=xbm fun g h j i=>by
 obtain ⟨b,⟨c,⟨d,⟨e,_⟩⟩⟩⟩:=g
 obtain ⟨a,_⟩:=h
 obtain ⟨f,rfl⟩:=Prod.mk.inj i
 exact xa6 mxTryz (inv0Ok Tryz.prog _) rfl xFm xAg (xkE c d) (xiW c d) (fun p=>by simp only [xiW,LR.eval];first|(simp;done)|(repeat' split<;>simp)) (xHb c d) (s:=(b,e,a)) (xac f)
def xmU:Env:=xuU.fn 106 0 (lsOf []) (lpsOf [(3,xlW)])
theorem xFP:OrcOk Tryz.prog (ITryz.at 0) xmU:=xqb.fn
theorem xBe:LoOk Tryz.prog (ITryz.at xmU.pin) xmU (loopAt Tryz.f72 1):=xaD (by kernel_rfl)
def xw8 (i:Int) (a:LA):=decide (0+i.toNat<a.length)
def xtP {T:Type} (b e:Nat) (d i:Int) (a c:LA) (δ:T) (κl:(Int×Int×LA×LA)→T) (κr:(Int×Int×LA×LA)→T):T:=br (decide (i<(↑b:Int))) (br (decide (0≤i)&&decide (i<(↑b:Int))) (br (xw8 i a&&hasSh1 (Sh.int .i64) ((a.getD (0+i.toNat) .top).cells.getD 0 .top)) (br (((a.getD (0+i.toNat) .top).cells.getD 0 .top).toInt==0) (br (decide (0≤i)&&decide (i<(↑b:Int))) (br (xw8 i a&&hasSh1 (Sh.int .i64) ((a.getD (0+i.toNat) .top).cells.getD 1 .top)) (κl (i64.wrap (d+((a.getD (0+i.toNat) .top).cells.getD 1 .top).toInt),i64.wrap (i+1),a,c)) δ) δ) (κr (d,i,a,c))) δ) δ) (κr (d,i,a,c))
def xgU (b d:Nat):(Int×Int×LA×LA)→Option ((Int×Int×LA×LA)⊕(Int×Int×LA×LA)):=fun (e,i,a,c)=>xtP b d e i a c none (fun s=>some (.inl s)) (fun p=>some (.inr p))
def xkB (b d:Nat):(Int×Int×LA×LA)→LA×List Box:=fun (e,i,a,c)=>([AV.osl 0 0 0 b,AV.osl 1 0 0 d,AV.int .i64 e,AV.int .i64 i],[⟨0,2,75,a,false,true⟩,⟨0,2,75,c,false,true⟩])
def xjc (a b:Nat):(Int×Int×LA×LA)→LR:=fun p=>(.leaf (.exit 2) [AV.osl 0 0 0 a,AV.osl 1 0 0 b,AV.int .i64 p.1,AV.int .i64 p.2.1] [⟨0,2,75,p.2.2.1,false,true⟩,⟨0,2,75,p.2.2.2,false,true⟩])
abbrev xG7 (a:LA) (H:List Box):=XR Tryz.prog xmU [3,6,7,8] [3,6,7,8] [(3,2,75),(6,2,75)] (loopAt Tryz.f72 1) a H
theorem xG0 (a b:Nat) (s:Int×Int×LA×LA):Enc (encR (xkB a b) (xjc a b)) (xgU a b s) (xG7 (xkB a b s).1 (xkB a b s).2):=by
 obtain ⟨e,i,c,d⟩:=s
 refine eV (xtP a b e i c d none (fun s=>some (encR (xkB a b) (xjc a b) (.inl s))) (fun p=>some (encR (xkB a b) (xjc a b) (.inr p)))) (by kernel_rfl) ?_;unfold xgU xtP;repeat' first|exact eN|exact eS rfl|apply eB
def xn7:Lp:=lpOf [3,6,7,8] [3,6,7,8] [(3,2,75),(6,2,75)] (pCons (pOsl 0 0 0) (pCons (pOsl 1 0 0) (pCons (pInt .i64) (pCons (pInt .i64) pNil)))) (pCons (pBox 0 2 75 false true pAny) (pCons (pBox 0 2 75 false true pAny) pNil)) fun (a,(c,(e,(i,_)))) (b,(d,_))=>((Iter (xgU a c) (e,i,b,d)).isSome,xjc a c ((Iter (xgU a c) (e,i,b,d)).getD (0,0,[],[])))
theorem xEG:LoopOk Tryz.prog (ITryz.at xmU.pin) xmU.nt (loopAt Tryz.f72 1) xn7:=xbm fun g h k j=>by
 obtain ⟨a,⟨b,⟨e,⟨i,_⟩⟩⟩⟩:=g
 obtain ⟨c,⟨d,_⟩⟩:=h
 obtain ⟨f,rfl⟩:=Prod.mk.inj j
 exact xa6 mxTryz (inv0Ok Tryz.prog _) rfl xFP xBe (xkB a b) (xjc a b) (fun p=>by simp only [xjc,LR.eval];first|(simp;done)|(repeat' split<;>simp)) (xG0 a b) (s:=(e,i,c,d)) (xac f)
def xmS:Env:=xuU.fn 106 0 (lsOf []) (lpsOf [(3,xlW),(11,xn7)])
theorem xE8:OrcOk Tryz.prog (ITryz.at 0) xmS:=xqb.fn
theorem xAO:LoOk Tryz.prog (ITryz.at xmS.pin) xmS (loopAt Tryz.f72 3):=xaD (by kernel_rfl)
def xl0 (i:Int) (a:LA):=decide (0+i.toNat<a.length)
def xkA {T:Type} (b f:Nat) (e d i:Int) (a c:LA) (δ:T) (κl:(Int×Int×LA×LA)→T) (κr:(Int×Int×LA×LA)→T):T:=br (decide (i<(↑b:Int))) (br (decide (0≤i)&&decide (i<(↑b:Int))) (br (xl0 i a&&hasSh1 (Sh.int .i64) ((a.getD (0+i.toNat) .top).cells.getD 0 .top)) (br (((a.getD (0+i.toNat) .top).cells.getD 0 .top).toInt==e) (br (decide (0≤i)&&decide (i<(↑b:Int))) (br (xl0 i a&&hasSh1 (Sh.int .i64) ((a.getD (0+i.toNat) .top).cells.getD 1 .top)) (κl (i64.wrap (d+((a.getD (0+i.toNat) .top).cells.getD 1 .top).toInt),i64.wrap (i+1),a,c)) δ) δ) (κr (d,i,a,c))) δ) δ) (κr (d,i,a,c))
def xet (b d:Nat) (e:Int):(Int×Int×LA×LA)→Option ((Int×Int×LA×LA)⊕(Int×Int×LA×LA)):=fun (f,i,a,c)=>xkA b d e f i a c none (fun s=>some (.inl s)) (fun p=>some (.inr p))
def xkw (b d:Nat) (e:Int):(Int×Int×LA×LA)→LA×List Box:=fun (f,i,a,c)=>([AV.osl 0 0 0 b,AV.osl 1 0 0 d,AV.int .i64 f,AV.int .i64 i,AV.int .i64 e],[⟨0,2,75,a,false,true⟩,⟨0,2,75,c,false,true⟩])
def xja (a b:Nat) (c:Int):(Int×Int×LA×LA)→LR:=fun p=>(.leaf (.exit 6) [AV.osl 0 0 0 a,AV.osl 1 0 0 b,AV.int .i64 p.1,AV.int .i64 p.2.1,AV.int .i64 c] [⟨0,2,75,p.2.2.1,false,true⟩,⟨0,2,75,p.2.2.2,false,true⟩])
abbrev xHd (a:LA) (H:List Box):=XR Tryz.prog xmS [3,6,7,8,9] [3,6,7,8,9] [(3,2,75),(6,2,75)] (loopAt Tryz.f72 3) a H
theorem xG3 (a b:Nat) (c:Int) (s:Int×Int×LA×LA):Enc (encR (xkw a b c) (xja a b c)) (xet a b c s) (xHd (xkw a b c s).1 (xkw a b c s).2):=by
 obtain ⟨f,i,d,e⟩:=s
 refine eV (xkA a b c f i d e none (fun s=>some (encR (xkw a b c) (xja a b c) (.inl s))) (fun p=>some (encR (xkw a b c) (xja a b c) (.inr p)))) (by kernel_rfl) ?_;unfold xet xkA;repeat' first|exact eN|exact eS rfl|apply eB
def xsp:Lp:=lpOf [3,6,7,8,9] [3,6,7,8,9] [(3,2,75),(6,2,75)] (pCons (pOsl 0 0 0) (pCons (pOsl 1 0 0) (pCons (pInt .i64) (pCons (pInt .i64) (pCons (pInt .i64) pNil))))) (pCons (pBox 0 2 75 false true pAny) (pCons (pBox 0 2 75 false true pAny) pNil)) fun (a,(c,(f,(i,(e,_))))) (b,(d,_))=>((Iter (xet a c e) (f,i,b,d)).isSome,xja a c e ((Iter (xet a c e) (f,i,b,d)).getD (0,0,[],[])))
theorem xvN:LoopOk Tryz.prog (ITryz.at xmS.pin) xmS.nt (loopAt Tryz.f72 3) xsp:=xbm fun h j l k=>by
 obtain ⟨a,⟨b,⟨f,⟨i,⟨d,_⟩⟩⟩⟩⟩:=h
 obtain ⟨c,⟨e,_⟩⟩:=j
 obtain ⟨g,rfl⟩:=Prod.mk.inj k
 exact xa6 mxTryz (inv0Ok Tryz.prog _) rfl xE8 xAO (xkw a b d) (xja a b d) (fun p=>by simp only [xja,LR.eval];first|(simp;done)|(repeat' split<;>simp)) (xG3 a b d) (s:=(f,i,c,e)) (xac g)
def xmP:Env:=xuU.fn 106 0 (lsOf []) (lpsOf [(3,xlW),(11,xn7),(17,xsp)])
theorem xFh:OrcOk Tryz.prog (ITryz.at 0) xmP:=xqb.fn
theorem xAW:LoOk Tryz.prog (ITryz.at xmP.pin) xmP (loopAt Tryz.f72 2):=xbe (ls:=[loopAt Tryz.f72 3]) (by kernel_rfl) (lkC xvN lkN)
def xlk (i:Int) (a:LA):=decide (0+i.toNat<a.length)&&hasSh1 (Sh.int .i64) ((a.getD (0+i.toNat) .top).cells.getD 0 .top)
def xiP (i:Int) (a:LA):=((a.getD (0+i.toNat) .top).cells.getD 0 .top).toInt
def xk0 (b d:Nat) (e i:Int) (a c:LA):=Iter (xet b d (xiP i a)) (e,i,a,c)
def xlP (b d:Nat) (e i:Int) (a c:LA):=(xk0 b d e i a c).getD (0,0,[],[])
def xlY (b d:Nat) (e i:Int) (a c:LA):=(xlP b d e i a c).fst
def xlZ (b d:Nat) (e i:Int) (a c:LA):=(xlP b d e i a c).snd
def xlM (b d:Nat) (e i:Int) (a c:LA):=(xlZ b d e i a c).snd
def xlx (b c:Nat) (e i:Int) (a d:LA):=xgq c (xiP i a) (xlY b c e i a d) (xlM b c e i a d).snd
def xlR (b d:Nat) (e i:Int) (a c:LA):=(xlx b d e i a c).getD (false,(0,[]),0,[])
def xl7 (b d:Nat) (e i:Int) (a c:LA):=(xlR b d e i a c).fst
def xl3 (b d:Nat) (e i:Int) (a c:LA):=(xlR b d e i a c).snd
def xlS (b d:Nat) (e i:Int) (a c:LA):=(xl3 b d e i a c).fst
def xlN (b d:Nat) (e i:Int) (a c:LA):=(xl3 b d e i a c).snd
def xkr {T:Type} (b d:Nat) (e i:Int) (a c:LA) (δ:T) (κl:(Nat×Int×Int×LA×LA)→T) (κr:(Nat×LA)→T):T:=br (decide (i<(↑b:Int))) (br (decide (0≤i)&&decide (i<(↑b:Int))) (br (xlk i a) (br (decide (xiP i a<1099511627776)) (br (decide (0≤i)&&decide (i<(↑b:Int))) (br (xlk i a) (br ((xk0 b d e i a c).isSome) (br ((xlx b d e i a c).isSome) (κl (br (xl7 b d e i a c) (xlS b d e i a c).fst (xlN b d e i a c).fst,xlY b d e i a c,(xlZ b d e i a c).fst,(xlM b d e i a c).fst,br (xl7 b d e i a c) (xlS b d e i a c).snd (xlN b d e i a c).snd)) δ) δ) δ) δ) (κr (d,c))) δ) δ) (κr (d,c))
def xex (b:Nat):(Nat×Int×Int×LA×LA)→Option ((Nat×Int×Int×LA×LA)⊕(Nat×LA)):=fun (d,e,i,a,c)=>xkr b d e i a c none (fun s=>some (.inl s)) (fun p=>some (.inr p))
def xkC (b:Nat):(Nat×Int×Int×LA×LA)→LA×List Box:=fun (d,e,i,a,c)=>([AV.osl 0 0 0 b,AV.osl 1 0 0 d,AV.int .i64 e,AV.int .i64 i],[⟨0,2,75,a,false,true⟩,⟨0,2,75,c,false,true⟩])
def xiS (a:Nat):(Nat×LA)→LR:=fun p=>(.leaf (.exit 4) [AV.osl 0 0 0 p.1] [⟨0,2,75,p.2,false,true⟩])
abbrev xGS (a:LA) (H:List Box):=XR Tryz.prog xmP [3,6,7,8] [6] [(3,2,75),(6,2,75)] (loopAt Tryz.f72 2) a H
theorem xG1 (a:Nat) (s:Nat×Int×Int×LA×LA):Enc (encR (xkC a) (xiS a)) (xex a s) (xGS (xkC a s).1 (xkC a s).2):=by
 obtain ⟨d,e,i,b,c⟩:=s
 refine eV (xkr a d e i b c none (fun s=>some (encR (xkC a) (xiS a) (.inl s))) (fun p=>some (encR (xkC a) (xiS a) (.inr p)))) (by kernel_rfl) ?_;unfold xex xkr;repeat' first|exact eN|exact eS rfl|apply eB
def xwY:Lp:=lpOf [3,6,7,8] [6] [(3,2,75),(6,2,75)] (pCons (pOsl 0 0 0) (pCons (pOsl 1 0 0) (pCons (pInt .i64) (pCons (pInt .i64) pNil)))) (pCons (pBox 0 2 75 false true pAny) (pCons (pBox 0 2 75 false true pAny) pNil)) fun (a,(d,(e,(i,_)))) (b,(c,_))=>((Iter (xex a) (d,e,i,b,c)).isSome,xiS a ((Iter (xex a) (d,e,i,b,c)).getD (0,[])))
theorem xDI:LoopOk Tryz.prog (ITryz.at xmP.pin) xmP.nt (loopAt Tryz.f72 2) xwY:=xbm fun g h k j=>by
 obtain ⟨a,⟨d,⟨e,⟨i,_⟩⟩⟩⟩:=g
 obtain ⟨b,⟨c,_⟩⟩:=h
 obtain ⟨f,rfl⟩:=Prod.mk.inj j
 exact xa6 mxTryz (inv0Ok Tryz.prog _) rfl xFh xAW (xkC a) (xiS a) (fun p=>by simp only [xiS,LR.eval];first|(simp;done)|(repeat' split<;>simp)) (xG1 a) (s:=(d,e,i,b,c)) (xac f)
def xpp:Env:=xuU.fn 106 0 (lsOf []) (lpsOf [(3,xlW),(11,xn7),(17,xsp),(15,xwY)])
theorem xFU:OrcOk Tryz.prog (ITryz.at 0) xpp:=xqb.fn
theorem xDo:LoOk Tryz.prog (ITryz.at xpp.pin) xpp (Tryz.f72.body.getD .skip):=xbe (ls:=[loopAt Tryz.f72 0,loopAt Tryz.f72 1,loopAt Tryz.f72 2,loopAt Tryz.f72 3]) (by kernel_rfl) (lkC xDv (lkC xEG (lkC xDI (lkC xvN lkN))))
def xup (l:LA):=(Iter (xeX l (↑l.length:Int)) (0,0,[])).getD (0,[])
def xnL (l:LA):=(xup l).fst
def xrD (l:LA):=(xup l).snd
def xuP (l:LA):=Iter (xgU (xnL l) 0) (0,0,srtS (xrD l),[])
def xuu (l:LA):=(xuP l).getD (0,0,[],[])
def xu6 (l:LA):=(xuu l).fst
def xuo (l:LA):=(xuu l).snd
def xu9 (l:LA):=(xuo l).snd
def xwc (l:LA):=xgq 0 0 (xu6 l) (xu9 l).snd
def xwF (l:LA):=(xwc l).getD (false,(0,[]),0,[])
def xwb (l:LA):=(xwF l).fst
def xwg (l:LA):=(xwF l).snd
def xv3 (l:LA):=(xwg l).snd
def xwD (l:LA):=(xwg l).fst
def xwq (l:LA):=Iter (xex (xnL l)) (br (xwb l) (xwD l).fst (xv3 l).fst,xu6 l,(xuo l).fst,(xu9 l).fst,br (xwb l) (xwD l).snd (xv3 l).snd)
def xwd (l:LA):=(xwq l).getD (0,[])
def xwG (l:LA):=(xwd l).snd
def xwA (l:LA):=(xwd l).fst
def xt0 {T:Type} (l:LA) (δ:T) (κ:LA→T):T:=br ((Iter (xeX l (↑l.length:Int)) (0,0,[])).isSome) (br ((xnL l).beq (xrD l).length&&(decide (xnL l<4611686018427387904)&&(xrD l).all isS)) (br ((xuP l).isSome) (br ((xwc l).isSome) (br ((xwq l).isSome) (br (decide (0+xwA l≤(xwG l).length)&&true) (κ (List.take (xwA l) (List.drop 0 (xwG l)))) δ) δ) δ) δ) δ) δ
def xnq (l:LA):Option (LA):=xt0 l none some
theorem xKS (l:LA):Enc (fun (p:LA)=>((AV.list 2 p):AV)) (xnq l) (XF Tryz.prog xpp Tryz.f72 (Tryz.f72.body.getD .skip) [AV.list 3 l]):=by
 refine eV (xt0 l none (fun (p:LA)=>some ((AV.list 2 p):AV))) (by kernel_rfl) ?_;unfold xnq xt0;repeat' first|exact eN|exact eS rfl|apply eB
def xD0:LA→Option (Bool×AV):=ocOf (sCons (sList 3 pAny) sNil) fun (l,_)=>((xnq l).isSome,(AV.list 2 ((xnq l).getD [])))
theorem xKp:OcOk Tryz.prog ITryz 72 (xD0):=xbg fun c f e=>by
 obtain ⟨l,_⟩:=c
 obtain ⟨a,b⟩:=Prod.mk.inj e
 refine xa7 (p:=xpp.pin) (xbd mxTryz (inv0Ok Tryz.prog _) rfl xFU Tryz.func72 rfl (by kernel_rfl) xDo ((xKS _ _ (xac (d:=[]) a)).trans ?_))
 exact congrArg some b
def xEn:Env:=xuU.with 72 xD0
theorem xAv:OrcOk Tryz.prog ITryz xEn:=xqb.with xKp
def xgB:Env:=xEn.fn 20 0 (lsOf []) (lpsOf [])
theorem xwh:OrcOk Tryz.prog (ITryz.at 0) xgB:=xAv.fn
theorem xtR:LoOk Tryz.prog (ITryz.at xgB.pin) xgB (loopAt Tryz.f45 0):=xaD (by kernel_rfl)
def xgY {T:Type} (d:LA) (e:Int) (b:Nat) (a:Int) (c:LA) (δ:T) (κl:(Nat×Int×LA)→T) (κr:(Nat×LA)→T):T:=br (decide (a<e)) (br (decide (0≤a)&&decide (a<d.length)) (br (decide (a.toNat<d.length)&&((d.getD a.toNat .top).cells.length==2&&hasShs [Sh.int .i64,Sh.int .i64] (d.getD a.toNat .top).cells 0)) (br (b==c.length&&(decide ((b+1)*24≤140737488355328)&&decide (b+1≤4611686018427387904))) (κl (b+1,i64.wrap (a+1),c++[AV.agg [AV.int .i64 ((d.getD a.toNat .top).cells.getD 0 .top).toInt,AV.int .i64 ((d.getD a.toNat .top).cells.getD 1 .top).toInt,AV.int .i64 1]])) δ) δ) δ) (κr (b,c))
def xb9 (c:LA) (d:Int):(Nat×Int×LA)→Option ((Nat×Int×LA)⊕(Nat×LA)):=fun (b,e,a)=>xgY c d b e a none (fun s=>some (.inl s)) (fun p=>some (.inr p))
def xfG (c:LA) (d:Int):(Nat×Int×LA)→LA×List Box:=fun (b,e,a)=>([AV.osl 0 0 0 b,AV.list 2 c,AV.int .i64 d,AV.int .i64 e],[⟨0,3,78,a,false,true⟩])
def xeR (a:LA) (b:Int):(Nat×LA)→LR:=fun p=>(.leaf (.exit 0) [AV.osl 0 0 0 p.1] [⟨0,3,78,p.2,false,true⟩])
abbrev xwN (a:LA) (H:List Box):=XR Tryz.prog xgB [3,6,7,8] [3] [(3,3,78)] (loopAt Tryz.f45 0) a H
theorem xyq (a:LA) (b:Int) (s:Nat×Int×LA):Enc (encR (xfG a b) (xeR a b)) (xb9 a b s) (xwN (xfG a b s).1 (xfG a b s).2):=by
 obtain ⟨d,e,c⟩:=s
 refine eV (xgY a b d e c none (fun s=>some (encR (xfG a b) (xeR a b) (.inl s))) (fun p=>some (encR (xfG a b) (xeR a b) (.inr p)))) (by kernel_rfl) ?_;unfold xb9 xgY;repeat' first|exact eN|exact eS rfl|apply eB
def xpo:Lp:=lpOf [3,6,7,8] [3] [(3,3,78)] (pCons (pOsl 0 0 0) (pCons (pList 2 pAny) (pCons (pInt .i64) (pCons (pInt .i64) pNil)))) (pCons (pBox 0 3 78 false true pAny) pNil) fun (b,(c,(d,(e,_)))) (a,_)=>((Iter (xb9 c d) (b,e,a)).isSome,xeR c d ((Iter (xb9 c d) (b,e,a)).getD (0,[])))
theorem xvl:LoopOk Tryz.prog (ITryz.at xgB.pin) xgB.nt (loopAt Tryz.f45 0) xpo:=xbm fun f g j h=>by
 obtain ⟨d,⟨a,⟨b,⟨i,_⟩⟩⟩⟩:=f
 obtain ⟨c,_⟩:=g
 obtain ⟨e,rfl⟩:=Prod.mk.inj h
 exact xa6 mxTryz (inv0Ok Tryz.prog _) rfl xwh xtR (xfG a b) (xeR a b) (fun p=>by simp only [xeR,LR.eval];first|(simp;done)|(repeat' split<;>simp)) (xyq a b) (s:=(d,i,c)) (xac e)
def xh7:Env:=xEn.fn 20 0 (lsOf []) (lpsOf [(3,xpo)])
theorem xv6:OrcOk Tryz.prog (ITryz.at 0) xh7:=xAv.fn
theorem xu5:LoOk Tryz.prog (ITryz.at xh7.pin) xh7 (Tryz.f45.body.getD .skip):=xbe (ls:=[loopAt Tryz.f45 0]) (by kernel_rfl) (lkC xvl lkN)
def xm2 (l:LA):=(Iter (xb9 l (↑l.length:Int)) (0,0,[])).getD (0,[])
def xm8 (l:LA):=(xm2 l).snd
def xm5 (l:LA):=(xm2 l).fst
def xm0 (l:LA):=xnq (List.take (xm5 l) (List.drop 0 (xm8 l)))
def xk9 {T:Type} (l:LA) (δ:T) (κ:LA→T):T:=br ((Iter (xb9 l (↑l.length:Int)) (0,0,[])).isSome) (br (decide (0+xm5 l≤(xm8 l).length)&&true) (br ((xm0 l).isSome) (κ ((xm0 l).getD [])) δ) δ) δ
def xeu (l:LA):Option (LA):=xk9 l none some
theorem xAG (l:LA):Enc (fun (p:LA)=>((AV.list 2 p):AV)) (xeu l) (XF Tryz.prog xh7 Tryz.f45 (Tryz.f45.body.getD .skip) [AV.list 2 l]):=by
 refine eV (xk9 l none (fun (p:LA)=>some ((AV.list 2 p):AV))) (by kernel_rfl) ?_;unfold xeu xk9;repeat' first|exact eN|exact eS rfl|apply eB
def xs7:LA→Option (Bool×AV):=ocOf (sCons (sList 2 pAny) sNil) fun (l,_)=>((xeu l).isSome,(AV.list 2 ((xeu l).getD [])))
theorem xAE:OcOk Tryz.prog ITryz 45 (xs7):=xbg fun c f e=>by
 obtain ⟨l,_⟩:=c
 obtain ⟨a,b⟩:=Prod.mk.inj e
 refine xa7 (p:=xh7.pin) (xbd mxTryz (inv0Ok Tryz.prog _) rfl xv6 Tryz.func45 rfl (by kernel_rfl) xu5 ((xAG _ _ (xac (d:=[]) a)).trans ?_))
 exact congrArg some b
def xMs:Env:=xEn.with 45 xs7
theorem xLH:OrcOk Tryz.prog ITryz xMs:=xAv.with xAE
abbrev EKP1:Env:=xMs
theorem xBp:OrcOk Tryz.prog ITryz EKP1:=xLH
end Go.Sim.M
end
noncomputable section
set_option maxRecDepth 100000
namespace Go.Sim.M
open Go.IntKind (i64 u64 u8)
open Go.RowKit Go.Proofs
def xkD:Env:=EKP1.fn 71 5 (lsOf []) (lpsOf [])
theorem xCx:OrcOk Tryz.prog (ITryz.at 5) xkD:=xBp.fn
theorem xza:LoOk Tryz.prog (ITryz.at xkD.pin) xkD (loopAt Tryz.f68 1):=xaD (by kernel_rfl)
def xkO {T:Type} (o n:Int) (f g:Nat) (k p m j:Int) (i l d h a:Nat) (b:LA) (e:Nat) (c:LA) (δ:T) (κl:(Int×Int×Nat×Nat×Nat×Nat×Nat×LA×Nat×LA)→T) (κr:(Int×Nat×Nat×Nat×Nat×LA×Nat×LA×Nat)→T):T:=br (decide (m<p)) (br (a==f) (br (a==f) (br (a==f&&(decide (g<b.length)&&hasSh1 (Sh.int .i64) ((b.getD g .top).cells.getD 0 .top))) (br (e==h&&(d==c.length&&(decide ((d+1)*16≤140737488355328)&&decide (d+1≤4611686018427387904)))) (κl (i64.wrap (m+1),j,i,l,d+1,h+1,a,List.take i b,h+1,c++[AV.agg [AV.int .i64 ((b.getD g .top).cells.getD 0 .top).toInt,AV.int .i64 o]])) δ) δ) δ) δ) (κr (j,l,i,h,d,b,a,c,e))
def xdF (m n:Int) (e f:Nat) (k o:Int):(Int×Int×Nat×Nat×Nat×Nat×Nat×LA×Nat×LA)→Option ((Int×Int×Nat×Nat×Nat×Nat×Nat×LA×Nat×LA)⊕(Int×Nat×Nat×Nat×Nat×LA×Nat×LA×Nat)):=fun (q,g,h,i,j,l,a,b,c,d)=>xkO m n e f k o q g h i j l a b c d none (fun s=>some (.inl s)) (fun p=>some (.inr p))
def xiQ (m n:Int) (e f:Nat) (k o:Int):(Int×Int×Nat×Nat×Nat×Nat×Nat×LA×Nat×LA)→LA×List Box:=fun (p,g,h,i,j,l,a,b,c,d)=>([AV.int .i64 m,AV.int .i64 n,AV.own 0 0 0 0,AV.own 1 0 0 0,AV.own 2 0 0 0,AV.own 3 e f 0,AV.int .i64 k,AV.int .i64 o,AV.int .i64 p],[⟨0,1,3,[AV.int .i64 g],false,true⟩,⟨0,1,84,[AV.osl 3 i 0 h],false,false⟩,⟨0,1,53,[AV.osl 4 l 0 j],false,false⟩,⟨a,2,86,b,false,true⟩,⟨c,2,31,d,false,true⟩])
def xhz (c n:Int) (a b:Nat) (k d:Int):(Int×Nat×Nat×Nat×Nat×LA×Nat×LA×Nat)→LR:=fun p=>(.leaf (.exit 2) [AV.int .i64 c,AV.int .i64 n,AV.own 0 0 0 0,AV.own 1 0 0 0,AV.own 2 0 0 0,AV.own 3 a b 0,AV.int .i64 k] [⟨0,1,3,[AV.int .i64 p.1],false,true⟩,⟨0,1,84,[AV.osl 3 p.2.1 0 p.2.2.1],false,false⟩,⟨0,1,53,[AV.osl 4 p.2.2.2.1 0 p.2.2.2.2.1],false,false⟩,⟨p.2.2.2.2.2.2.1,2,86,p.2.2.2.2.2.1,false,true⟩,⟨p.2.2.2.2.2.2.2.2,2,31,p.2.2.2.2.2.2.2.1,false,true⟩])
abbrev xEd (a:LA) (H:List Box):=XR Tryz.prog xkD [0,1,2,3,4,7,8,37,38] [0,1,2,3,4,7,8] [(3,0,0)] (loopAt Tryz.f68 1) a H
theorem xEt (c n:Int) (a b:Nat) (k d:Int) (s:Int×Int×Nat×Nat×Nat×Nat×Nat×LA×Nat×LA):Enc (encR (xiQ c n a b k d) (xhz c n a b k d)) (xdF c n a b k d s) (xEd (xiQ c n a b k d s).1 (xiQ c n a b k d s).2):=by
 obtain ⟨q,i,j,l,m,o,e,f,g,h⟩:=s
 refine eV (xkO c n a b k d q i j l m o e f g h none (fun s=>some (encR (xiQ c n a b k d) (xhz c n a b k d) (.inl s))) (fun p=>some (encR (xiQ c n a b k d) (xhz c n a b k d) (.inr p)))) (by kernel_rfl) ?_;unfold xdF xkO;repeat' first|exact eN|exact eS rfl|apply eB
def xp8:Lp:=lpOf [0,1,2,3,4,7,8,37,38] [0,1,2,3,4,7,8] [(3,0,0)] (pCons (pInt .i64) (pCons (pInt .i64) (pCons (pOwn 0 0 0 0) (pCons (pOwn 1 0 0 0) (pCons (pOwn 2 0 0 0) (pCons (pOwnV 3 0) (pCons (pInt .i64) (pCons (pInt .i64) (pCons (pInt .i64) pNil))))))))) (pCons (pBox 0 1 3 false true (pCons (pInt .i64) pNil)) (pCons (pBox 0 1 84 false false (pCons (pOslV 3 0) pNil)) (pCons (pBox 0 1 53 false false (pCons (pOslV 4 0) pNil)) (pCons (pBoxV 2 86 false true pAny) (pCons (pBoxV 2 31 false true pAny) pNil))))) fun (g,(n,(_,(_,(_,((e,f),(k,(h,(p,_))))))))) ((i,_),(((j,l),_),(((m,o),_),((a,b),((c,d),_)))))=>((Iter (xdF g n e f k h) (p,i,l,j,o,m,a,b,c,d)).isSome,xhz g n e f k h ((Iter (xdF g n e f k h) (p,i,l,j,o,m,a,b,c,d)).getD (0,0,0,0,0,[],0,[],0)))
theorem xtT:LoopOk Tryz.prog (ITryz.at xkD.pin) xkD.nt (loopAt Tryz.f68 1) xp8:=xbm fun t u w v=>by
 obtain ⟨g,⟨n,⟨_,⟨_,⟨_,⟨⟨a,b⟩,⟨k,⟨h,⟨q,_⟩⟩⟩⟩⟩⟩⟩⟩⟩:=t
 obtain ⟨⟨i,_⟩,⟨⟨⟨j,l⟩,_⟩,⟨⟨⟨m,o⟩,_⟩,⟨⟨c,d⟩,⟨⟨e,f⟩,_⟩⟩⟩⟩⟩:=u
 obtain ⟨r,rfl⟩:=Prod.mk.inj v
 exact xa6 mxTryz (inv0Ok Tryz.prog _) rfl xCx xza (xiQ g n a b k h) (xhz g n a b k h) (fun p=>by simp only [xhz,LR.eval];first|(simp;done)|(repeat' split<;>simp)) (xEt g n a b k h) (s:=(q,i,l,j,o,m,c,d,e,f)) (xac r)
def xkq:Env:=EKP1.fn 71 5 (lsOf []) (lpsOf [(7,xp8)])
theorem xCL:OrcOk Tryz.prog (ITryz.at 5) xkq:=xBp.fn
theorem xyS:LoOk Tryz.prog (ITryz.at xkq.pin) xkq (loopAt Tryz.f68 0):=xbe (ls:=[loopAt Tryz.f68 1]) (by kernel_rfl) (lkC xtT lkN)
def xck (a:Nat):Nat:=0+(i64.wrap ((↑a:Int) - 1)).toNat
def xgm (n b:Int) (c d:Nat) (a:LA):Int:=if i64.wrap (b - n)<((a.getD (xck c) .top).cells.getD 1 .top).toInt then i64.wrap (b - n) else ((a.getD (xck c) .top).cells.getD 1 .top).toInt
def xlE (j n d:Int) (c g h i a:Nat) (b:LA) (e:Nat) (f:LA):=Iter (xdF j n g (xck c) (xgm n d c a b) (xgm n d c a b)) (0,d,c,g,h,i,a,List.take c b,e,f)
def xjk (j n e:Int) (f g h i a:Nat) (b:LA) (c:Nat) (d:LA):=(xlE j n e f g h i a b c d).getD (0,0,0,0,0,[],0,[],0)
def xlF (j n e:Int) (f g h i a:Nat) (b:LA) (c:Nat) (d:LA):=(xjk j n e f g h i a b c d).snd
def xis (j n e:Int) (f g h i a:Nat) (b:LA) (c:Nat) (d:LA):=(xlF j n e f g h i a b c d).fst
def xlG (j n e:Int) (f g h i a:Nat) (b:LA) (c:Nat) (d:LA):=(xlF j n e f g h i a b c d).snd
def xin (j n e:Int) (f g h i a:Nat) (b:LA) (c:Nat) (d:LA):=(xlG j n e f g h i a b c d).fst
def xjl (j n e:Int) (f g h i a:Nat) (b:LA) (c:Nat) (d:LA):=(xlG j n e f g h i a b c d).snd
def xil (j n e:Int) (f g h i a:Nat) (b:LA) (c:Nat) (d:LA):=i64.wrap ((↑(xin j n e f g h i a b c d):Int) - 1)
def xjn (j n e:Int) (f g h i a:Nat) (b:LA) (c:Nat) (d:LA):=(xjl j n e f g h i a b c d).snd
def xlI (j n e:Int) (f g h i a:Nat) (b:LA) (c:Nat) (d:LA):=(xjn j n e f g h i a b c d).snd
def xjW (j n e:Int) (f g h i a:Nat) (b:LA) (c:Nat) (d:LA):=(xlI j n e f g h i a b c d).fst
def xmo (j n e:Int) (f g h i a:Nat) (b:LA) (c:Nat) (d:LA):=(xlI j n e f g h i a b c d).snd
def xfL (j n f:Int) (g e h i a:Nat) (b:LA) (c:Nat) (d:LA):=(xmo j n f g e h i a b c d).fst==e
def xmz (j n f:Int) (e g h i a:Nat) (b:LA) (c:Nat) (d:LA):=decide (xck e<(xjW j n f e g h i a b c d).length)
def xij (j n f:Int) (e g h i a:Nat) (b:LA) (c:Nat) (d:LA):=((xjW j n f e g h i a b c d).getD (xck e) .top).cells
def xie (j n e:Int) (f g h i a:Nat) (b:LA) (c:Nat) (d:LA):=(xmo j n e f g h i a b c d).snd
def xgT (j n f:Int) (e g h i a:Nat) (b:LA) (c:Nat) (d:LA):=(xjW j n f e g h i a b c d).set (xck e) (AV.agg (List.take 1 (xij j n f e g h i a b c d)++[AV.int .i64 (i64.wrap (((xij j n f e g h i a b c d).getD 1 .top).toInt - xgm n f e a b))]++List.drop 2 (xij j n f e g h i a b c d)))
def xhd {T:Type} (j n g:Int) (f e h i a:Nat) (b:LA) (c:Nat) (d:LA) (δ:T) (κl:(Int×Nat×Nat×Nat×Nat×Nat×LA×Nat×LA)→T) (κr:(Int×Nat×Nat×Nat×Nat×LA×Nat×LA×Nat)→T):T:=br (decide (g>n)) (br (a==e) (br (a==e&&(decide (0≤i64.wrap ((↑f:Int) - 1))&&decide (i64.wrap ((↑f:Int) - 1)<(↑f:Int)))) (br (a==e) (br (a==e) (br (a==e&&(decide (xck f<b.length)&&hasSh1 (Sh.int .i64) ((b.getD (xck f) .top).cells.getD 1 .top))) (br ((xlE j n g f e h i a b c d).isSome) (br (xfL j n g f e h i a b c d) (br (xfL j n g f e h i a b c d) (br (xfL j n g f e h i a b c d&&(xmz j n g f e h i a b c d&&hasSh1 (Sh.int .i64) ((xij j n g f e h i a b c d).getD 1 .top))) (br (xfL j n g f e h i a b c d) (br (xfL j n g f e h i a b c d) (br (xfL j n g f e h i a b c d&&xmz j n g f e h i a b c d) (br (e==e) (br (e==e) (br (e==e&&(decide (xck f<(xgT j n g f e h i a b c d).length)&&hasSh1 (Sh.int .i64) (((xgT j n g f e h i a b c d).getD (xck f) .top).cells.getD 1 .top))) (br ((((xgT j n g f e h i a b c d).getD (xck f) .top).cells.getD 1 .top).toInt==0) (br (e==xis j n g f e h i a b c d) (br (e==xis j n g f e h i a b c d&&(decide (0≤xil j n g f e h i a b c d)&&decide (xil j n g f e h i a b c d≤(↑(xin j n g f e h i a b c d):Int))&&true)) (κl (i64.wrap ((xjk j n g f e h i a b c d).fst - xgm n g f a b),(xil j n g f e h i a b c d).toNat - 0,xis j n g f e h i a b c d,(xjn j n g f e h i a b c d).fst,(xjl j n g f e h i a b c d).fst,e,List.take ((xil j n g f e h i a b c d).toNat - 0) (xgT j n g f e h i a b c d),(xie j n g f e h i a b c d).snd,(xie j n g f e h i a b c d).fst)) δ) δ) (κl (i64.wrap ((xjk j n g f e h i a b c d).fst - xgm n g f a b),xin j n g f e h i a b c d,xis j n g f e h i a b c d,(xjn j n g f e h i a b c d).fst,(xjl j n g f e h i a b c d).fst,e,List.take (xin j n g f e h i a b c d) (xgT j n g f e h i a b c d),(xie j n g f e h i a b c d).snd,(xie j n g f e h i a b c d).fst))) δ) δ) δ) δ) δ) δ) δ) δ) δ) δ) δ) δ) δ) δ) δ) (κr (g,e,f,i,h,b,a,d,c))
def xcR (j n:Int):(Int×Nat×Nat×Nat×Nat×Nat×LA×Nat×LA)→Option ((Int×Nat×Nat×Nat×Nat×Nat×LA×Nat×LA)⊕(Int×Nat×Nat×Nat×Nat×LA×Nat×LA×Nat)):=fun (e,f,g,h,i,a,b,c,d)=>xhd j n e f g h i a b c d none (fun s=>some (.inl s)) (fun p=>some (.inr p))
def xi7 (j n:Int):(Int×Nat×Nat×Nat×Nat×Nat×LA×Nat×LA)→LA×List Box:=fun (e,f,g,h,i,a,b,c,d)=>([AV.int .i64 j,AV.int .i64 n,AV.own 0 0 0 0,AV.own 1 0 0 0,AV.own 2 0 0 0],[⟨0,1,3,[AV.int .i64 e],false,true⟩,⟨0,1,84,[AV.osl 3 g 0 f],false,false⟩,⟨0,1,53,[AV.osl 4 i 0 h],false,false⟩,⟨a,2,86,b,false,true⟩,⟨c,2,31,d,false,true⟩])
def xhE (a n:Int):(Int×Nat×Nat×Nat×Nat×LA×Nat×LA×Nat)→LR:=fun p=>(.leaf (.exit 0) [] [⟨0,1,3,[AV.int .i64 p.1],false,true⟩,⟨0,1,84,[AV.osl 3 p.2.1 0 p.2.2.1],false,false⟩,⟨0,1,53,[AV.osl 4 p.2.2.2.1 0 p.2.2.2.2.1],false,false⟩,⟨p.2.2.2.2.2.2.1,2,86,p.2.2.2.2.2.1,false,true⟩,⟨p.2.2.2.2.2.2.2.2,2,31,p.2.2.2.2.2.2.2.1,false,true⟩])
abbrev xD4 (a:LA) (H:List Box):=XR Tryz.prog xkq [0,1,2,3,4] [] [(3,0,0)] (loopAt Tryz.f68 0) a H
theorem xEE (a n:Int) (s:Int×Nat×Nat×Nat×Nat×Nat×LA×Nat×LA):Enc (encR (xi7 a n) (xhE a n)) (xcR a n s) (xD4 (xi7 a n s).1 (xi7 a n s).2):=by
 obtain ⟨f,g,h,i,j,b,c,d,e⟩:=s
 refine eV (xhd a n f g h i j b c d e none (fun s=>some (encR (xi7 a n) (xhE a n) (.inl s))) (fun p=>some (encR (xi7 a n) (xhE a n) (.inr p)))) (by kernel_rfl) ?_;unfold xcR xhd;repeat' first|exact eN|exact eS rfl|apply eB
def xuK:Lp:=lpOf [0,1,2,3,4] [] [(3,0,0)] (pCons (pInt .i64) (pCons (pInt .i64) (pCons (pOwn 0 0 0 0) (pCons (pOwn 1 0 0 0) (pCons (pOwn 2 0 0 0) pNil))))) (pCons (pBox 0 1 3 false true (pCons (pInt .i64) pNil)) (pCons (pBox 0 1 84 false false (pCons (pOslV 3 0) pNil)) (pCons (pBox 0 1 53 false false (pCons (pOslV 4 0) pNil)) (pCons (pBoxV 2 86 false true pAny) (pCons (pBoxV 2 31 false true pAny) pNil))))) fun (e,(n,(_,(_,(_,_))))) ((f,_),(((g,h),_),(((i,j),_),((a,b),((c,d),_)))))=>((Iter (xcR e n) (f,h,g,j,i,a,b,c,d)).isSome,xhE e n ((Iter (xcR e n) (f,h,g,j,i,a,b,c,d)).getD (0,0,0,0,0,[],0,[],0)))
theorem xBu:LoopOk Tryz.prog (ITryz.at xkq.pin) xkq.nt (loopAt Tryz.f68 0) xuK:=xbm fun l m q o=>by
 obtain ⟨e,⟨n,⟨_,⟨_,⟨_,_⟩⟩⟩⟩⟩:=l
 obtain ⟨⟨f,_⟩,⟨⟨⟨g,h⟩,_⟩,⟨⟨⟨i,j⟩,_⟩,⟨⟨a,b⟩,⟨⟨c,d⟩,_⟩⟩⟩⟩⟩:=m
 obtain ⟨k,rfl⟩:=Prod.mk.inj o
 exact xa6 mxTryz (inv0Ok Tryz.prog _) rfl xCL xyS (xi7 e n) (xhE e n) (fun p=>by simp only [xhE,LR.eval];first|(simp;done)|(repeat' split<;>simp)) (xEE e n) (s:=(f,h,g,j,i,a,b,c,d)) (xac k)
def xmF:Env:=EKP1.fn 71 5 (lsOf []) (lpsOf [(7,xp8),(3,xuK)])
theorem xCY:OrcOk Tryz.prog (ITryz.at 5) xmF:=xBp.fn
theorem xAP:LoOk Tryz.prog (ITryz.at xmF.pin) xmF (Tryz.f68.body.getD .skip):=xbe (ls:=[loopAt Tryz.f68 0,loopAt Tryz.f68 1]) (by kernel_rfl) (lkC xBu (lkC xtT lkN))
def xou (a n h:Int) (b c:Nat) (d e:LA):=Iter (xcR a n) (n,b+1,1,c,0,1,List.take (b+1) (d++[AV.agg [AV.int .i64 a,AV.int .i64 (i64.wrap (n - h))]]),0,e)
def xor (a n h:Int) (b c:Nat) (d e:LA):=Iter (xcR a n) (h,b,0,c,0,0,List.take b d,0,e)
def xoy (a n h:Int) (b c:Nat) (d e:LA):=(xou a n h b c d e).getD (0,0,0,0,0,[],0,[],0)
def xoz (a n h:Int) (b c:Nat) (d e:LA):=(xor a n h b c d e).getD (0,0,0,0,0,[],0,[],0)
def xpy (a n h:Int) (b c:Nat) (d e:LA):=(xoy a n h b c d e).snd
def xoF (a n h:Int) (b c:Nat) (d e:LA):=(xoz a n h b c d e).snd
def xpE (a n h:Int) (b c:Nat) (d e:LA):=(xpy a n h b c d e).snd
def xn9 (a n h:Int) (b c:Nat) (d e:LA):=(xoF a n h b c d e).snd
def xpz (a n h:Int) (b c:Nat) (d e:LA):=(xpE a n h b c d e).snd
def xoc (a n h:Int) (b c:Nat) (d e:LA):=(xn9 a n h b c d e).snd
def xpL (a n h:Int) (b c:Nat) (d e:LA):=(xpz a n h b c d e).snd
def xoq (a n h:Int) (b c:Nat) (d e:LA):=(xoc a n h b c d e).snd
def xpF (a n h:Int) (b c:Nat) (d e:LA):=(xpL a n h b c d e).snd
def xpM (a n h:Int) (b c:Nat) (d e:LA):=(xoq a n h b c d e).snd
def xpK (a n h:Int) (b c:Nat) (d e:LA):=(xpF a n h b c d e).snd
def xpB (a n h:Int) (b c:Nat) (d e:LA):=(xpM a n h b c d e).snd
def xpC (a n h:Int) (b c:Nat) (d e:LA):=(xpK a n h b c d e).snd
def xpG (a n h:Int) (b c:Nat) (d e:LA):=(xpB a n h b c d e).snd
def xnP {T:Type} (a n h:Int) (b d:Nat) (c e:LA) (δ:T) (κ:Int×Nat×Nat×Nat×Nat×LA×Nat×LA×Nat→T):T:=br (decide (n>h)) (br (b==c.length&&(decide ((b+1)*16≤140737488355328)&&decide (b+1≤4611686018427387904))) (br ((xou a n h b d c e).isSome) (κ ((xoy a n h b d c e).fst,(xpy a n h b d c e).fst,(xpE a n h b d c e).fst,(xpz a n h b d c e).fst,(xpL a n h b d c e).fst,(xpF a n h b d c e).fst,(xpK a n h b d c e).fst,(xpC a n h b d c e).fst,(xpC a n h b d c e).snd)) δ) δ) (br ((xor a n h b d c e).isSome) (κ ((xoz a n h b d c e).fst,(xoF a n h b d c e).fst,(xn9 a n h b d c e).fst,(xoc a n h b d c e).fst,(xoq a n h b d c e).fst,(xpM a n h b d c e).fst,(xpB a n h b d c e).fst,(xpG a n h b d c e).fst,(xpG a n h b d c e).snd)) δ)
def xod (a n h:Int) (b c:Nat) (d e:LA):Option (Int×Nat×Nat×Nat×Nat×LA×Nat×LA×Nat):=xnP a n h b c d e none some
theorem xIV (a n h:Int) (b c:Nat) (d e:LA):Enc (fun (p:Int×Nat×Nat×Nat×Nat×LA×Nat×LA×Nat)=>(((AV.tuple [],([⟨0,1,3,[AV.int .i64 p.1],false,true⟩,⟨0,1,84,[AV.osl 3 p.2.1 0 p.2.2.1],false,false⟩,⟨0,1,53,[AV.osl 4 p.2.2.2.1 0 p.2.2.2.2.1],false,false⟩,⟨p.2.2.2.2.2.2.1,2,86,p.2.2.2.2.2.1,false,true⟩,⟨p.2.2.2.2.2.2.2.2,2,31,p.2.2.2.2.2.2.2.1,false,true⟩]:List Box))):(AV×List Box))) (xod a n h b c d e) (XFM Tryz.prog xmF Tryz.f68 (Tryz.f68.body.getD .skip) [AV.int .i64 a,AV.int .i64 n,AV.own (0:Id) 0 0 0,AV.own (1:Id) 0 0 0,AV.own (2:Id) 0 0 0] [{ ver:=0,sz:=1,ty:=(3:TypeId),xs:=[AV.int .i64 h],frz:=false,pm:=true },{ ver:=0,sz:=1,ty:=(84:TypeId),xs:=[AV.osl (3:Id) 0 0 b],frz:=false,pm:=false },{ ver:=0,sz:=1,ty:=(53:TypeId),xs:=[AV.osl (4:Id) 0 0 c],frz:=false,pm:=false },{ ver:=0,sz:=2,ty:=(86:TypeId),xs:=d,frz:=false,pm:=true },{ ver:=0,sz:=2,ty:=(31:TypeId),xs:=e,frz:=false,pm:=true }]):=by
 refine eV (xnP a n h b c d e none (fun (p:Int×Nat×Nat×Nat×Nat×LA×Nat×LA×Nat)=>some (((AV.tuple [],([⟨0,1,3,[AV.int .i64 p.1],false,true⟩,⟨0,1,84,[AV.osl 3 p.2.1 0 p.2.2.1],false,false⟩,⟨0,1,53,[AV.osl 4 p.2.2.2.1 0 p.2.2.2.2.1],false,false⟩,⟨p.2.2.2.2.2.2.1,2,86,p.2.2.2.2.2.1,false,true⟩,⟨p.2.2.2.2.2.2.2.2,2,31,p.2.2.2.2.2.2.2.1,false,true⟩]:List Box))):(AV×List Box)))) (by kernel_rfl) ?_;unfold xod xnP;repeat' first|exact eN|exact eS rfl|apply eB
end Go.Sim.M
end
noncomputable section
set_option maxRecDepth 100000
namespace Go.Sim
open Go.RowKit
theorem GoodM.aged {P:Program} {Inv:IV} {f:FuncId} {args:List AV} {H:List Box} {x0:AV} {v3 v4 k3 k4 t0 t1 t2 t3 t4 s3 s4:Nat} {xs3 xs4:List AV} (hlen:H.length=5) (hz3:∀ bx,H[3]?=some bx→bx.ver=0) (hz4:∀ bx,H[4]?=some bx→bx.ver=0)
  (p0:isC t0=false) (p1:isC t1=false) (p2:isC t2=false) (p3:isC t3=false) (p4:isC t4=false)
  (h:GoodM P Inv f args H (.tuple []) [⟨0,1,t0,[x0],false,true⟩,⟨0,1,t1,[.osl (.b 3) v3 0 k3],false,false⟩,⟨0,1,t2,[.osl (.b 4) v4 0 k4],false,false⟩,⟨v3,s3,t3,xs3,false,true⟩,⟨v4,s4,t4,xs4,false,true⟩]) :
  GoodM P Inv f args H (.tuple []) [⟨0,1,t0,[x0],false,true⟩,⟨0,1,t1,[.osl (.b 3) 1 0 k3],false,false⟩,⟨0,1,t2,[.osl (.b 4) 1 0 k4],false,false⟩,⟨1,s3,t3,xs3,false,true⟩,⟨1,s4,t4,xs4,false,true⟩]:=by
 refine ⟨h.1,fun w0 w A M vs hI hB hR hrc=>(h.2 w0 w A M vs hI hB hR hrc).mono ?_⟩
 rintro e w' ⟨u,A',M',rfl,h1,h2,h3,h4,h5⟩
 let M'':Id→Option MB:=fun id=>if id=.b 3∨id=.b 4 then (M' id).map fun m=>⟨m.b,1,m.sz,m.cap,m.ty⟩ else M' id
 have e3:∀ m,M' (.b 3)=some m→M'' (.b 3)=some ⟨m.b,1,m.sz,m.cap,m.ty⟩:=fun m hm=>by simp [M'',hm]
 have e4:∀ m,M' (.b 4)=some m→M'' (.b 4)=some ⟨m.b,1,m.sz,m.cap,m.ty⟩:=fun m hm=>by
  show (if (Id.b 4=.b 3∨Id.b 4=.b 4) then _ else _)=_
  rw [if_pos (.inr rfl),hm];rfl
 have eo:∀ id,id≠.b 3→id≠.b 4→M'' id=M' id:=fun id g1 g2=>by
  show (if _ then _ else _)=_
  rw [if_neg (fun e=>e.elim g1 g2)]
 have hsrc:∀ id m1,M'' id=some m1→∃ m0,M' id=some m0∧m1.b=m0.b∧m1.cap=m0.cap∧m1.sz=m0.sz∧m1.ty=m0.ty:=fun id m1 hm1=>by
  by_cases g3:id=.b 3
  · subst g3
    cases hm:M' (.b 3) with
    | none=>simp [M'',hm] at hm1
    | some m=>rw [e3 m hm] at hm1;simp only [Option.some.injEq] at hm1;subst hm1;exact ⟨m,rfl,rfl,rfl,rfl,rfl⟩
  · by_cases g4:id=.b 4
    · subst g4
      cases hm:M' (.b 4) with
      | none =>
       have:M'' (.b 4)=none:=by
        show (if (Id.b 4=.b 3∨Id.b 4=.b 4) then _ else _)=_
        rw [if_pos (.inr rfl),hm];rfl
       rw [this] at hm1;cases hm1
      | some m=>rw [e4 m hm] at hm1;simp only [Option.some.injEq] at hm1;subst hm1;exact ⟨m,rfl,rfl,rfl,rfl,rfl⟩
    · rw [eo id g3 g4] at hm1
      exact ⟨m1,hm1,rfl,rfl,rfl,rfl⟩
 have hosl:∀ (n v k:Nat) (c:Value) (m:MB),M' (.b n)=some m→M'' (.b n)=some ⟨m.b,1,m.sz,m.cap,m.ty⟩→v=m.ver→Rel w' A' M' c (.osl (.b n) v 0 k)→Rel w' A' M'' c (.osl (.b n) 1 0 k):=fun n v k c m hm hm'' hv hr=>by
  obtain ⟨m0,g1,g2,g3,g4⟩:=Rel.osl_inv hr
  rw [hm] at g1
  simp only [Option.some.injEq] at g1
  subst g1
  exact .osl c (.b n) 1 0 k _ hm'' (Nat.le_refl _) g3 fun _=>g4 hv
 have hbox:∀ (n:Nat) (bx:Box) (m:MB),[⟨0,1,t0,[x0],false,true⟩,⟨0,1,t1,[.osl (.b 3) v3 0 k3],false,false⟩,⟨0,1,t2,[.osl (.b 4) v4 0 k4],false,false⟩,⟨v3,s3,t3,xs3,false,true⟩,⟨v4,s4,t4,xs4,false,true⟩][n]?=some bx→M' (.b n)=some m→BoxAt w' A' M' w0.heap.size (.b n) m bx:=fun n bx m hn hm=>by
  obtain ⟨bx',g1,g2⟩:=h4.box _ m hm
  rw [xg2,hn] at g1
  simp only [Option.some.injEq] at g1
  subst g1
  exact g2
 have hpure:∀ (id:Id) (bx:Box) (m:MB) (v:Nat),isC bx.ty=false→bx.pm=true→BoxAt w' A' M' w0.heap.size id m bx→BoxAt w' A' M'' w0.heap.size id ⟨m.b,v,m.sz,m.cap,m.ty⟩ ⟨v,bx.sz,bx.ty,bx.xs,bx.frz,bx.pm⟩:=fun id bx m v hpl hp g=>by
  have hnm:isMapT m.ty=false:=g.nomap (xc9 hpl)
  refine ⟨rfl,g.sz,g.ty,g.capm,g.fits,g.ok,g.low,g.lt,fun h0=>?_,g.guard⟩
  obtain ⟨c,c1,c2,c3⟩:=g.cells h0
  refine ⟨c,.of hnm (c1.plain hnm),c2,fun i j hi hj=>?_⟩
  have:=c3 i j hi hj
  rw [xbJ hpl,xdK hpl,hp] at this
  rw [xbJ hpl,xdK (bx:=⟨v,bx.sz,bx.ty,bx.xs,bx.frz,bx.pm⟩) hpl]
  show Rel w' A' (MP M'' bx.pm) _ _
  rw [hp]
  exact this
 have hvar:∀ (n n2 v k t:Nat) (m m2:MB),isC t=false→n≠3→n≠4→BoxAt w' A' M' w0.heap.size (.b n) m ⟨0,1,t,[.osl (.b n2) v 0 k],false,false⟩→M' (.b n2)=some m2→M'' (.b n2)=some ⟨m2.b,1,m2.sz,m2.cap,m2.ty⟩→v=m2.ver →
   BoxAt w' A' M'' w0.heap.size (.b n) m ⟨0,1,t,[.osl (.b n2) 1 0 k],false,false⟩:=fun n n2 v k t m m2 hpl _ _ g hm2 hm2'' hv=>by
  have hnm:isMapT m.ty=false:=g.nomap (xc9 hpl)
  have hsz:m.sz=1:=g.sz.symm
  refine ⟨g.ver,g.sz,g.ty,g.capm,g.fits,fun y hy=>?_,g.low,g.lt,fun h0=>?_,g.guard⟩
  · simp only [List.mem_singleton] at hy
    subst hy
    rw [hsz];rfl
  · obtain ⟨c,c1,c2,c3⟩:=g.cells h0
    refine ⟨c,.of hnm (c1.plain hnm),c2,fun i j hi hj=>?_⟩
    have hi0:i=0:=by simpa using hi
    have hj0:j=0:=by omega
    subst hi0 hj0
    have:=c3 0 0 (by simp) hj
    rw [xbJ hpl,xdK hpl] at this
    rw [xbJ hpl,xdK (bx:=⟨0,1,t,[.osl (.b n2) 1 0 k],false,false⟩) hpl]
    exact hosl n2 v k _ m2 hm2 hm2'' hv this
 have hm3:∀ m,M (.b 3)=some m→m.ver=0:=fun m hm=>by
  obtain ⟨bx,g1,g2⟩:=hR.box _ m hm
  rw [←g2.ver]
  exact hz3 bx g1
 have hm4:∀ m,M (.b 4)=some m→m.ver=0:=fun m hm=>by
  obtain ⟨bx,g1,g2⟩:=hR.box _ m hm
  rw [←g2.ver]
  exact hz4 bx g1
 have hver3:∀ m,M' (.b 3)=some m→v3=m.ver:=fun m hm=>(hbox 3 _ m rfl hm).ver
 have hver4:∀ m,M' (.b 4)=some m→v4=m.ver:=fun m hm=>(hbox 4 _ m rfl hm).ver
 have hrow:∀ n i j m,M' (.r n i j)=some m→BoxAt w' A' M' w0.heap.size (.r n i j) m tombB∧n<5:=fun n i j m hm=>by
  obtain ⟨bx,g1,g2⟩:=h4.box _ m hm
  obtain ⟨b0,q1,_⟩:=xtk g1
  have hn:n<5:=by
   have:=xh5 q1
   simpa using this
  have hp:isC b0.ty=false:=by
   match n,hn with
   | 0,_=>simp only [List.getElem?_cons_zero,Option.some.injEq] at q1;subst q1;exact p0
   | 1,_=>simp only [List.getElem?_cons_zero,List.getElem?_cons_succ,Option.some.injEq] at q1;subst q1;exact p1
   | 2,_=>simp only [List.getElem?_cons_zero,List.getElem?_cons_succ,Option.some.injEq] at q1;subst q1;exact p2
   | 3,_=>simp only [List.getElem?_cons_zero,List.getElem?_cons_succ,Option.some.injEq] at q1;subst q1;exact p3
   | 4,_=>simp only [List.getElem?_cons_zero,List.getElem?_cons_succ,Option.some.injEq] at q1;subst q1;exact p4
  rw [xgx q1 hp] at g1
  simp only [Option.some.injEq] at g1
  subst g1
  exact ⟨g2,hn⟩
 have hR':HR w' A' M'' w0.heap.size [⟨0,1,t0,[x0],false,true⟩,⟨0,1,t1,[.osl (.b 3) 1 0 k3],false,false⟩,⟨0,1,t2,[.osl (.b 4) 1 0 k4],false,false⟩,⟨1,s3,t3,xs3,false,true⟩,⟨1,s4,t4,xs4,false,true⟩]:=by
  refine ⟨fun id m1 hm1=>?_,fun id id' m1 m2 k1 k2 c1 c2 he=>?_,h4.lt⟩
  · obtain ⟨m0,g1,g2,g3,g4,g5⟩:=hsrc id m1 hm1
    cases id with
    | r n i j =>
     rw [eo (.r n i j) (fun e=>by cases e) (fun e=>by cases e),g1] at hm1
     simp only [Option.some.injEq] at hm1
     subst hm1
     obtain ⟨q1,q2⟩:=hrow n i j _ g1
     refine ⟨tombB,?_,?_⟩
     · match n,q2 with
       | 0,_=>exact xgx rfl p0
       | 1,_=>exact xgx rfl p1
       | 2,_=>exact xgx rfl p2
       | 3,_=>exact xgx rfl p3
       | 4,_=>exact xgx rfl p4
     · have hv:tombB.ver=m0.ver:=q1.ver
       have:=hpure (.r n i j) tombB m0 m0.ver rfl rfl q1
       exact ⟨q1.ver,this.sz,this.ty,this.capm,this.fits,this.ok,this.low,this.lt,this.cells,this.guard⟩
    | b n =>
     have hn:n<5:=by
      obtain ⟨bx,q1,_⟩:=h4.box _ m0 g1
      have:=xh5 q1
      simpa using this
     match n,hn with
     | 0,_ =>
      rw [eo (.b 0) (fun e=>by cases e) (fun e=>by cases e),g1] at hm1
      simp only [Option.some.injEq] at hm1
      subst hm1
      have q:=hbox 0 _ m0 rfl g1
      have:=hpure (.b 0) _ m0 m0.ver p0 rfl q
      exact ⟨⟨0,1,t0,[x0],false,true⟩,rfl,q.ver,this.sz,this.ty,this.capm,this.fits,this.ok,this.low,this.lt,this.cells,this.guard⟩
     | 1,_ =>
      rw [eo (.b 1) (fun e=>by cases e) (fun e=>by cases e),g1] at hm1
      simp only [Option.some.injEq] at hm1
      subst hm1
      have q:=hbox 1 _ m0 rfl g1
      have hc:0<m0.cap:=Nat.lt_of_lt_of_le Nat.zero_lt_one q.fits
      obtain ⟨c,c1,c2,c3⟩:=q.cells hc
      have hr:=c3 0 0 (by simp) (by rw [←q.sz];exact Nat.zero_lt_one)
      rw [xbJ p1,xdK (bx:=⟨0,1,t1,[.osl (.b 3) v3 0 k3],false,false⟩) p1] at hr
      have hr:Rel w' A' M' _ (.osl (.b 3) v3 0 k3):=hr
      obtain ⟨m3,a1,_⟩:=Rel.osl_inv hr
      exact ⟨_,rfl,hvar 1 3 v3 k3 t1 m0 m3 p1 (by decide) (by decide) q a1 (e3 m3 a1) (hver3 m3 a1)⟩
     | 2,_ =>
      rw [eo (.b 2) (fun e=>by cases e) (fun e=>by cases e),g1] at hm1
      simp only [Option.some.injEq] at hm1
      subst hm1
      have q:=hbox 2 _ m0 rfl g1
      have hc:0<m0.cap:=Nat.lt_of_lt_of_le Nat.zero_lt_one q.fits
      obtain ⟨c,c1,c2,c3⟩:=q.cells hc
      have hr:=c3 0 0 (by simp) (by rw [←q.sz];exact Nat.zero_lt_one)
      rw [xbJ p2,xdK (bx:=⟨0,1,t2,[.osl (.b 4) v4 0 k4],false,false⟩) p2] at hr
      have hr:Rel w' A' M' _ (.osl (.b 4) v4 0 k4):=hr
      obtain ⟨m4,a1,_⟩:=Rel.osl_inv hr
      exact ⟨_,rfl,hvar 2 4 v4 k4 t2 m0 m4 p2 (by decide) (by decide) q a1 (e4 m4 a1) (hver4 m4 a1)⟩
     | 3,_ =>
      rw [e3 m0 g1] at hm1
      simp only [Option.some.injEq] at hm1
      subst hm1
      exact ⟨_,rfl,hpure (.b 3) _ m0 1 p3 rfl (hbox 3 _ m0 rfl g1)⟩
     | 4,_ =>
      rw [e4 m0 g1] at hm1
      simp only [Option.some.injEq] at hm1
      subst hm1
      exact ⟨_,rfl,hpure (.b 4) _ m0 1 p4 rfl (hbox 4 _ m0 rfl g1)⟩
  · obtain ⟨n1,a1,a2,a3,_⟩:=hsrc id m1 k1
    obtain ⟨n2,b1,b2,b3,_⟩:=hsrc id' m2 k2
    exact h4.inj id id' n1 n2 a1 b1 (by omega) (by omega) (by rw [←a2,←b2,he])
 refine ⟨u,A',M'',rfl,h1,h2,⟨h3.size,h3.keep,h3.less,h3.more,fun id m hid hm=>?_,fun id m1 hm1 h0=>?_⟩,hR',?_⟩
 · obtain ⟨m',g1,g2⟩:=h3.ids id m hid hm
   by_cases q3:id=.b 3
   · subst q3
     exact ⟨_,e3 m' g1,.inr (by have:m.ver=0:=hm3 m hm;show m.ver<1;omega)⟩
   · by_cases q4:id=.b 4
     · subst q4
       exact ⟨_,e4 m' g1,.inr (by have:m.ver=0:=hm4 m hm;show m.ver<1;omega)⟩
     · exact ⟨m',by rw [eo id q3 q4];exact g1,g2⟩
 · obtain ⟨m0,g1,g2,g3,_⟩:=hsrc id m1 hm1
   rw [g2]
   exact h3.src id m0 g1 (by omega)
 · obtain ⟨vs',rfl,q1,_⟩:=h5.tuple_inv
   exact .tuple vs' [] q1 (by simp)
namespace M
open Go.Proofs
noncomputable def set2 (at0 n h:Int) (ns no:Nat) (sx ox:List AV):Option (Int×Nat×Nat×List AV×List AV):=(xod at0 n h ns no sx ox).bind fun p =>
 br (Nat.beq p.2.1 p.2.2.2.2.2.2.1&&Nat.beq p.2.2.2.1 p.2.2.2.2.2.2.2.2) (some (p.1,p.2.2.1,p.2.2.2.2.1,p.2.2.2.2.2.1,p.2.2.2.2.2.2.2.1)) none
noncomputable def xNp:List AV→List Box→Option (Bool×AV×List Box):=omOf (sCons (sEq (pInt IntKind.i64)) (sCons (sEq (pInt IntKind.i64)) (sCons (sEq (pOwn 0 0 0 0)) (sCons (sEq (pOwn 1 0 0 0)) (sCons (sEq (pOwn 2 0 0 0)) sNil)))))
 (pCons (pBox 0 1 3 false true (pCons (pInt IntKind.i64) pNil)) (pCons (pBox 0 1 84 false false (pCons (pOsl 3 0 0) pNil)) (pCons (pBox 0 1 53 false false (pCons (pOsl 4 0 0) pNil)) (pCons (pBox 0 2 86 false true pAny) (pCons (pBox 0 2 31 false true pAny) pNil)))))
 fun (at0,(n,(_,(_,(_,_))))) ((h,_),((ns,_),((no,_),(sx,(ox,_)))))=>((set2 at0 n h ns no sx ox).isSome,(.tuple [],[⟨0,1,3,[.int .i64 ((set2 at0 n h ns no sx ox).getD (0,0,0,[],[])).1],false,true⟩,⟨0,1,84,[.osl (.b 3) 1 0 ((set2 at0 n h ns no sx ox).getD (0,0,0,[],[])).2.1],false,false⟩,⟨0,1,53,[.osl (.b 4) 1 0 ((set2 at0 n h ns no sx ox).getD (0,0,0,[],[])).2.2.1],false,false⟩,⟨1,2,86,((set2 at0 n h ns no sx ox).getD (0,0,0,[],[])).2.2.2.1,false,true⟩,⟨1,2,31,((set2 at0 n h ns no sx ox).getD (0,0,0,[],[])).2.2.2.2,false,true⟩]))
theorem xQm:OmOk Tryz.prog ITryz 68 xNp:=xeQ fun vv bb rr hh' hh=>by
 obtain ⟨at0,⟨n,⟨_,⟨_,⟨_,_⟩⟩⟩⟩⟩:=vv
 obtain ⟨⟨h,_⟩,⟨⟨ns,_⟩,⟨⟨no,_⟩,⟨sx,⟨ox,_⟩⟩⟩⟩⟩:=bb
 obtain ⟨hh1,hh2⟩:=Prod.mk.inj hh
 cases hs:xod at0 n h ns no sx ox with
 | none=>rw [show set2 at0 n h ns no sx ox=none by unfold set2;rw [hs];rfl] at hh1;simp at hh1
 | some p =>
  have hs2:set2 at0 n h ns no sx ox=br (Nat.beq p.2.1 p.2.2.2.2.2.2.1&&Nat.beq p.2.2.2.1 p.2.2.2.2.2.2.2.2) (some (p.1,p.2.2.1,p.2.2.2.2.1,p.2.2.2.2.2.1,p.2.2.2.2.2.2.2.1)) none:=by unfold set2;rw [hs];rfl
  cases ht:Nat.beq p.2.1 p.2.2.2.2.2.2.1&&Nat.beq p.2.2.2.1 p.2.2.2.2.2.2.2.2 with
  | false=>rw [hs2,ht] at hh1;simp [br] at hh1
  | true =>
   rw [ht] at hs2
   have hs3:set2 at0 n h ns no sx ox=some (p.1,p.2.2.1,p.2.2.2.2.1,p.2.2.2.2.2.1,p.2.2.2.2.2.2.2.1):=hs2
   rw [hs3] at hh2
   simp only [Option.getD_some] at hh2
   simp only [Bool.and_eq_true] at ht
   have e1:=Nat.eq_of_beq_eq_true ht.1
   have e2:=Nat.eq_of_beq_eq_true ht.2
   have hx:=xIV at0 n h ns no sx ox p hs
   have hg:GoodM Tryz.prog ITryz 68 _ _ _ _:=xdE (p:=xmF.pin) (xd4 mxTryz (inv0Ok Tryz.prog _) rfl xCY rfl Tryz.func68 rfl (by kernel_rfl) xAP hx)
   rw [←e1,←e2] at hg
   have hg2:=GoodM.aged rfl (fun bx hb=>by simp only [List.getElem?_cons_zero,List.getElem?_cons_succ,Option.some.injEq] at hb;subst hb;rfl) (fun bx hb=>by simp only [List.getElem?_cons_zero,List.getElem?_cons_succ,Option.some.injEq] at hb;subst hb;rfl) rfl rfl rfl rfl rfl hg
   obtain ⟨rfl,rfl⟩:=Prod.mk.inj hh2
   exact hg2
noncomputable def ESet:Env:=EKP1.withM 68 xNp
theorem xFK:OrcOk Tryz.prog ITryz ESet:=xBp.withM xQm
end M
end Go.Sim
end
noncomputable section
set_option maxRecDepth 100000
namespace Go.Sim.M
open Go.IntKind (i64 u64 u8)
open Go.RowKit Go.Proofs
def xi1:Env:=ESet.fn 30 0 (lsOf []) (lpsOf [])
theorem xBa:OrcOk Tryz.prog (ITryz.at 0) xi1:=xFK.fn
theorem xwy:LoOk Tryz.prog (ITryz.at xi1.pin) xi1 (loopAt Tryz.f44 0):=xaD (by kernel_rfl)
def xnK (a:LA) (h b:Int) (f c:Nat) (g:Int) (d e:LA):Int:=if 0>((a.getD b.toNat .top).cells.getD 1 .top).toInt then 0 else ((a.getD b.toNat .top).cells.getD 1 .top).toInt
def xnH (f:LA) (h g:Int) (d a:Nat) (e:Int) (b c:LA):=set2 ((f.getD g.toNat .top).cells.getD 0 .top).toInt (if 1048576<xnK f h g d a e b c then 1048576 else xnK f h g d a e b c) e a d c b
def xnM (f:LA) (g h:Int) (d a:Nat) (e:Int) (b c:LA):=(xnH f g h d a e b c).getD (0,0,0,[],[])
def xnV (f:LA) (g h:Int) (d a:Nat) (e:Int) (b c:LA):=(xnM f g h d a e b c).snd
def xnW (f:LA) (g h:Int) (d a:Nat) (e:Int) (b c:LA):=(xnV f g h d a e b c).fst
def xno (f:LA) (g h:Int) (d a:Nat) (e:Int) (b c:LA):=(xnV f g h d a e b c).snd
def xnm (f:LA) (g h:Int) (d a:Nat) (e:Int) (b c:LA):=(xno f g h d a e b c).snd
def xjh {T:Type} (f:LA) (h d:Int) (e a:Nat) (g:Int) (b c:LA) (δ:T) (κl:(Int×Nat×Nat×Int×LA×LA)→T) (κr:(Nat×Int×Nat×LA×LA)→T):T:=br (decide (d<h)) (br (decide (0≤d)&&decide (d<f.length)) (br (decide (d.toNat<f.length)&&((f.getD d.toNat .top).cells.length==2&&hasShs [Sh.int .i64,Sh.int .i64] (f.getD d.toNat .top).cells 0)) (br ((xnH f h d e a g b c).isSome) (κl (i64.wrap (d+1),(xno f h d e a g b c).fst,xnW f h d e a g b c,(xnM f h d e a g b c).fst,(xnm f h d e a g b c).snd,List.take (xnW f h d e a g b c) (xnm f h d e a g b c).fst)) δ) δ) δ) (κr (e,g,a,b,c))
def xdv (f:LA) (g:Int):(Int×Nat×Nat×Int×LA×LA)→Option ((Int×Nat×Nat×Int×LA×LA)⊕(Nat×Int×Nat×LA×LA)):=fun (h,d,a,e,b,c)=>xjh f g h d a e b c none (fun s=>some (.inl s)) (fun p=>some (.inr p))
def xhI (f:LA) (g:Int):(Int×Nat×Nat×Int×LA×LA)→LA×List Box:=fun (h,d,a,e,b,c)=>([AV.own 0 0 0 0,AV.own 1 0 0 0,AV.func 68 [AV.own 2 0 0 0,AV.own 1 0 0 0,AV.own 0 0 0 0],AV.list 2 f,AV.int .i64 g,AV.int .i64 h],[⟨0,1,53,[AV.osl 3 0 0 d],false,false⟩,⟨0,1,84,[AV.osl 4 0 0 a],false,false⟩,⟨0,1,3,[AV.int .i64 e],false,true⟩,⟨0,2,31,b,false,true⟩,⟨0,2,86,c,false,true⟩])
def xgy (a:LA) (b:Int):(Nat×Int×Nat×LA×LA)→LR:=fun p=>(.leaf (.exit 0) [AV.own 0 0 0 0,AV.func 68 [AV.own 1 0 0 0,AV.own 2 0 0 0,AV.own 0 0 0 0]] [⟨0,1,53,[AV.osl 3 0 0 p.1],false,false⟩,⟨0,1,3,[AV.int .i64 p.2.1],false,true⟩,⟨0,1,84,[AV.osl 4 0 0 p.2.2.1],false,false⟩,⟨0,2,31,p.2.2.2.1,false,true⟩,⟨0,2,86,p.2.2.2.2,false,true⟩])
abbrev xBT (a:LA) (H:List Box):=XR Tryz.prog xi1 [3,4,6,10,11,12] [3,6] [(3,2,31),(4,2,86),(4,0,0)] (loopAt Tryz.f44 0) a H
theorem xBv (a:LA) (b:Int) (s:Int×Nat×Nat×Int×LA×LA):Enc (encR (xhI a b) (xgy a b)) (xdv a b s) (xBT (xhI a b s).1 (xhI a b s).2):=by
 obtain ⟨h,f,c,g,d,e⟩:=s
 refine eV (xjh a b h f c g d e none (fun s=>some (encR (xhI a b) (xgy a b) (.inl s))) (fun p=>some (encR (xhI a b) (xgy a b) (.inr p)))) (by kernel_rfl) ?_;unfold xdv xjh;repeat' first|exact eN|exact eS rfl|apply eB
def xtl:Lp:=lpOf [3,4,6,10,11,12] [3,6] [(3,2,31),(4,2,86),(4,0,0)] (pCons (pOwn 0 0 0 0) (pCons (pOwn 1 0 0 0) (pCons (pFunc 68 (pCons (pOwn 2 0 0 0) (pCons (pOwn 1 0 0 0) (pCons (pOwn 0 0 0 0) pNil)))) (pCons (pList 2 pAny) (pCons (pInt .i64) (pCons (pInt .i64) pNil)))))) (pCons (pBox 0 1 53 false false (pCons (pOsl 3 0 0) pNil)) (pCons (pBox 0 1 84 false false (pCons (pOsl 4 0 0) pNil)) (pCons (pBox 0 1 3 false true (pCons (pInt .i64) pNil)) (pCons (pBox 0 2 31 false true pAny) (pCons (pBox 0 2 86 false true pAny) pNil))))) fun (_,(_,((_,(_,(_,_))),(e,(f,(h,_)))))) ((d,_),((a,_),((g,_),(b,(c,_)))))=>((Iter (xdv e f) (h,d,a,g,b,c)).isSome,xgy e f ((Iter (xdv e f) (h,d,a,g,b,c)).getD (0,0,0,[],[])))
theorem xzN:LoopOk Tryz.prog (ITryz.at xi1.pin) xi1.nt (loopAt Tryz.f44 0) xtl:=xbm fun j k m l=>by
 obtain ⟨_,⟨_,⟨⟨_,⟨_,⟨_,_⟩⟩⟩,⟨d,⟨e,⟨h,_⟩⟩⟩⟩⟩⟩:=j
 obtain ⟨⟨f,_⟩,⟨⟨a,_⟩,⟨⟨g,_⟩,⟨b,⟨c,_⟩⟩⟩⟩⟩:=k
 obtain ⟨i,rfl⟩:=Prod.mk.inj l
 exact xa6 mxTryz (inv0Ok Tryz.prog _) rfl xBa xwy (xhI d e) (xgy d e) (fun p=>by simp only [xgy,LR.eval];first|(simp;done)|(repeat' split<;>simp)) (xBv d e) (s:=(h,f,a,g,b,c)) (xac i)
def xlj:Env:=ESet.fn 30 0 (lsOf []) (lpsOf [(6,xtl)])
theorem xAK:OrcOk Tryz.prog (ITryz.at 0) xlj:=xFK.fn
theorem xyP:LoOk Tryz.prog (ITryz.at xlj.pin) xlj (Tryz.f44.body.getD .skip):=xbe (ls:=[loopAt Tryz.f44 0]) (by kernel_rfl) (lkC xzN lkN)
def xrb (l:LA):=Iter (xdv l (↑l.length:Int)) (0,0,0,0,[],[])
def xrs (l:LA):=(xrb l).getD (0,0,0,[],[])
def xqW (l:LA):=(xrs l).snd
def xrB (l:LA):=(xqW l).snd
def xrf (l:LA):=(xrB l).snd
def xqN (l:LA):=set2 1099511627776 0 (xqW l).fst (xrB l).fst (xrs l).fst (xrf l).snd (xrf l).fst
def xqZ (l:LA):=((xqN l).getD (0,0,0,[],[])).snd.snd
def xkx (l:LA):=(xqZ l).fst
def xkV (l:LA):=(xqZ l).snd.snd
def xol {T:Type} (l:LA) (δ:T) (κ:LA→T):T:=br ((xrb l).isSome) (br ((xqN l).isSome) (br ((xkx l).beq (xkV l).length&&(decide (xkx l<4611686018427387904)&&(xkV l).all isP)) (br (decide (0+xkx l≤(srtP (xkV l)).length)&&true) (κ (List.take (xkx l) (List.drop 0 (srtP (xkV l))))) δ) δ) δ) δ
def xiK (l:LA):Option (LA):=xol l none some
theorem xFD (l:LA):Enc (fun (p:LA)=>((AV.list 2 p):AV)) (xiK l) (XF Tryz.prog xlj Tryz.f44 (Tryz.f44.body.getD .skip) [AV.list 2 l]):=by
 refine eV (xol l none (fun (p:LA)=>some ((AV.list 2 p):AV))) (by kernel_rfl) ?_;unfold xiK xol;repeat' first|exact eN|exact eS rfl|apply eB
def xyg:LA→Option (Bool×AV):=ocOf (sCons (sList 2 pAny) sNil) fun (l,_)=>((xiK l).isSome,(AV.list 2 ((xiK l).getD [])))
theorem xFf:OcOk Tryz.prog ITryz 44 (xyg):=xbg fun c f e=>by
 obtain ⟨l,_⟩:=c
 obtain ⟨a,b⟩:=Prod.mk.inj e
 refine xa7 (p:=xlj.pin) (xbd mxTryz (inv0Ok Tryz.prog _) rfl xAK Tryz.func44 rfl (by kernel_rfl) xyP ((xFD _ _ (xac (d:=[]) a)).trans ?_))
 exact congrArg some b
def xIC:Env:=ESet.with 44 xyg
theorem xGB:OrcOk Tryz.prog ITryz xIC:=xFK.with xFf
def xjx:Env:=xIC.fn 10 0 (lsOf []) (lpsOf [])
theorem xzV:OrcOk Tryz.prog (ITryz.at 0) xjx:=xGB.fn
theorem xyc:LoOk Tryz.prog (ITryz.at xjx.pin) xjx (Tryz.f43.body.getD .skip):=xaD (by kernel_rfl)
def xnd {T:Type} (a:LA) (δ:T) (κ:LA→T):T:=br ((↑a.length:Int)==1) (κ (a)) (br ((xeu a).isSome) (br ((xiK ((xeu a).getD [])).isSome) (κ ((xiK ((xeu a).getD [])).getD [])) δ) δ)
def xe4 (a:LA):Option (LA):=xnd a none some
theorem xD1 (a:LA):Enc (fun (p:LA)=>((AV.list 2 p):AV)) (xe4 a) (XF Tryz.prog xjx Tryz.f43 (Tryz.f43.body.getD .skip) [AV.list 2 a]):=by
 refine eV (xnd a none (fun (p:LA)=>some ((AV.list 2 p):AV))) (by kernel_rfl) ?_;unfold xe4 xnd;repeat' first|exact eN|exact eS rfl|apply eB
def xvG:LA→Option (Bool×AV):=ocOf (sCons (sList 2 pAny) sNil) fun (a,_)=>((xe4 a).isSome,(AV.list 2 ((xe4 a).getD [])))
theorem xD9:OcOk Tryz.prog ITryz 43 (xvG):=xbg fun c f e=>by
 obtain ⟨g,_⟩:=c
 obtain ⟨a,b⟩:=Prod.mk.inj e
 refine xa7 (p:=xjx.pin) (xbd mxTryz (inv0Ok Tryz.prog _) rfl xzV Tryz.func43 rfl (by kernel_rfl) xyc ((xD1 _ _ (xac (d:=[]) a)).trans ?_))
 exact congrArg some b
def xLU:Env:=xIC.with 43 xvG
theorem xNk:OrcOk Tryz.prog ITryz xLU:=xGB.with xD9
abbrev EKP3:Env:=xLU
theorem xBo:OrcOk Tryz.prog ITryz EKP3:=xNk
end Go.Sim.M
end
noncomputable section
set_option maxRecDepth 100000
namespace Go.Sim.M
open Go.IntKind (i64 u64 u8)
open Go.RowKit Go.Proofs
def xkp:Env:=EKP3.fn 49 0 (lsOf []) (lpsOf [])
theorem xDg:OrcOk Tryz.prog (ITryz.at 0) xkp:=xBo.fn
theorem xyX:LoOk Tryz.prog (ITryz.at xkp.pin) xkp (loopAt Tryz.f99 0):=xaD (by kernel_rfl)
def xkS {T:Type} (b e:LA) (f:Int) (c:Nat) (a:Int) (d:LA) (δ:T) (κl:(Nat×Int×LA)→T) (κr:(Nat×LA)→T):T:=br (decide (a<f)) (br (decide (0≤a)&&decide (a<e.length)) (br (decide (a.toNat<e.length)&&((e.getD a.toNat .top).cells.length==2&&hasShs [Sh.int .i64,Sh.int .i64] (e.getD a.toNat .top).cells 0)) (br (xdP ((e.getD a.toNat .top).cells.getD 0 .top).toInt ((e.getD a.toNat .top).cells.getD 1 .top).toInt) (br (c==d.length&&(decide ((c+2)*24≤140737488355328)&&decide (c+2≤4611686018427387904))) (κl (c+2,i64.wrap (a+1),d++[AV.agg [AV.int .i64 ((e.getD a.toNat .top).cells.getD 0 .top).toInt,AV.int .i64 1,AV.int .i64 0],AV.agg [AV.int .i64 ((e.getD a.toNat .top).cells.getD 1 .top).toInt,AV.int .i64 (-1),AV.int .i64 0]])) δ) (κl (c,i64.wrap (a+1),d))) δ) δ) (κr (c,d))
def xcT (b d:LA) (e:Int):(Nat×Int×LA)→Option ((Nat×Int×LA)⊕(Nat×LA)):=fun (c,f,a)=>xkS b d e c f a none (fun s=>some (.inl s)) (fun p=>some (.inr p))
def xiT (b d:LA) (e:Int):(Nat×Int×LA)→LA×List Box:=fun (c,f,a)=>([AV.list 2 b,AV.osl 0 0 0 c,AV.list 2 d,AV.int .i64 e,AV.int .i64 f],[⟨0,3,117,a,false,true⟩])
def xhG (b a:LA) (c:Int):(Nat×LA)→LR:=fun p=>(.leaf (.exit 0) [AV.list 2 b,AV.osl 0 0 0 p.1] [⟨0,3,117,p.2,false,true⟩])
abbrev xDR (a:LA) (H:List Box):=XR Tryz.prog xkp [1,5,10,11,12] [1,5] [(5,3,117)] (loopAt Tryz.f99 0) a H
theorem xEU (b a:LA) (c:Int) (s:Nat×Int×LA):Enc (encR (xiT b a c) (xhG b a c)) (xcT b a c s) (xDR (xiT b a c s).1 (xiT b a c s).2):=by
 obtain ⟨e,f,d⟩:=s
 refine eV (xkS b a c e f d none (fun s=>some (encR (xiT b a c) (xhG b a c) (.inl s))) (fun p=>some (encR (xiT b a c) (xhG b a c) (.inr p)))) (by kernel_rfl) ?_;unfold xcT xkS;repeat' first|exact eN|exact eS rfl|apply eB
def xp3:Lp:=lpOf [1,5,10,11,12] [1,5] [(5,3,117)] (pCons (pList 2 pAny) (pCons (pOsl 0 0 0) (pCons (pList 2 pAny) (pCons (pInt .i64) (pCons (pInt .i64) pNil))))) (pCons (pBox 0 3 117 false true pAny) pNil) fun (b,(c,(d,(e,(f,_))))) (a,_)=>((Iter (xcT b d e) (c,f,a)).isSome,xhG b d e ((Iter (xcT b d e) (c,f,a)).getD (0,[])))
theorem xB2:LoopOk Tryz.prog (ITryz.at xkp.pin) xkp.nt (loopAt Tryz.f99 0) xp3:=xbm fun h i k j=>by
 obtain ⟨b,⟨e,⟨a,⟨c,⟨f,_⟩⟩⟩⟩⟩:=h
 obtain ⟨d,_⟩:=i
 obtain ⟨g,rfl⟩:=Prod.mk.inj j
 exact xa6 mxTryz (inv0Ok Tryz.prog _) rfl xDg xyX (xiT b a c) (xhG b a c) (fun p=>by simp only [xhG,LR.eval];first|(simp;done)|(repeat' split<;>simp)) (xEU b a c) (s:=(e,f,d)) (xac g)
def xku:Env:=EKP3.fn 49 0 (lsOf []) (lpsOf [(3,xp3)])
theorem xCP:OrcOk Tryz.prog (ITryz.at 0) xku:=xBo.fn
theorem xy9:LoOk Tryz.prog (ITryz.at xku.pin) xku (loopAt Tryz.f99 1):=xaD (by kernel_rfl)
def xkL {T:Type} (d:LA) (e:Int) (b:Nat) (a:Int) (c:LA) (δ:T) (κl:(Nat×Int×LA)→T) (κr:(Nat×LA)→T):T:=br (decide (a<e)) (br (decide (0≤a)&&decide (a<d.length)) (br (decide (a.toNat<d.length)&&((d.getD a.toNat .top).cells.length==2&&hasShs [Sh.int .i64,Sh.int .i64] (d.getD a.toNat .top).cells 0)) (br (xdP ((d.getD a.toNat .top).cells.getD 0 .top).toInt ((d.getD a.toNat .top).cells.getD 1 .top).toInt) (br (b==c.length&&(decide ((b+2)*24≤140737488355328)&&decide (b+2≤4611686018427387904))) (κl (b+2,i64.wrap (a+1),c++[AV.agg [AV.int .i64 ((d.getD a.toNat .top).cells.getD 0 .top).toInt,AV.int .i64 0,AV.int .i64 1],AV.agg [AV.int .i64 ((d.getD a.toNat .top).cells.getD 1 .top).toInt,AV.int .i64 0,AV.int .i64 (-1)]])) δ) (κl (b,i64.wrap (a+1),c))) δ) δ) (κr (b,c))
def xes (c:LA) (d:Int):(Nat×Int×LA)→Option ((Nat×Int×LA)⊕(Nat×LA)):=fun (b,e,a)=>xkL c d b e a none (fun s=>some (.inl s)) (fun p=>some (.inr p))
def xiV (c:LA) (d:Int):(Nat×Int×LA)→LA×List Box:=fun (b,e,a)=>([AV.osl 0 0 0 b,AV.list 2 c,AV.int .i64 d,AV.int .i64 e],[⟨0,3,117,a,false,true⟩])
def xhK (a:LA) (b:Int):(Nat×LA)→LR:=fun p=>(.leaf (.exit 2) [AV.osl 0 0 0 p.1] [⟨0,3,117,p.2,false,true⟩])
abbrev xDx (a:LA) (H:List Box):=XR Tryz.prog xku [5,28,29,30] [5] [(5,3,117)] (loopAt Tryz.f99 1) a H
theorem xEf (a:LA) (b:Int) (s:Nat×Int×LA):Enc (encR (xiV a b) (xhK a b)) (xes a b s) (xDx (xiV a b s).1 (xiV a b s).2):=by
 obtain ⟨d,e,c⟩:=s
 refine eV (xkL a b d e c none (fun s=>some (encR (xiV a b) (xhK a b) (.inl s))) (fun p=>some (encR (xiV a b) (xhK a b) (.inr p)))) (by kernel_rfl) ?_;unfold xes xkL;repeat' first|exact eN|exact eS rfl|apply eB
def xuy:Lp:=lpOf [5,28,29,30] [5] [(5,3,117)] (pCons (pOsl 0 0 0) (pCons (pList 2 pAny) (pCons (pInt .i64) (pCons (pInt .i64) pNil)))) (pCons (pBox 0 3 117 false true pAny) pNil) fun (b,(c,(d,(e,_)))) (a,_)=>((Iter (xes c d) (b,e,a)).isSome,xhK c d ((Iter (xes c d) (b,e,a)).getD (0,[])))
theorem xBK:LoopOk Tryz.prog (ITryz.at xku.pin) xku.nt (loopAt Tryz.f99 1) xuy:=xbm fun g h j i=>by
 obtain ⟨d,⟨a,⟨b,⟨e,_⟩⟩⟩⟩:=g
 obtain ⟨c,_⟩:=h
 obtain ⟨f,rfl⟩:=Prod.mk.inj i
 exact xa6 mxTryz (inv0Ok Tryz.prog _) rfl xCP xy9 (xiV a b) (xhK a b) (fun p=>by simp only [xhK,LR.eval];first|(simp;done)|(repeat' split<;>simp)) (xEf a b) (s:=(d,e,c)) (xac f)
def xmL:Env:=EKP3.fn 49 0 (lsOf []) (lpsOf [(3,xp3),(9,xuy)])
theorem xC2:OrcOk Tryz.prog (ITryz.at 0) xmL:=xBo.fn
theorem xA9:LoOk Tryz.prog (ITryz.at xmL.pin) xmL (Tryz.f99.body.getD .skip):=xbe (ls:=[loopAt Tryz.f99 0,loopAt Tryz.f99 1]) (by kernel_rfl) (lkC xB2 (lkC xBK lkN))
def xpD (a b:LA):=(Iter (xcT b a (↑a.length:Int)) (0,0,[])).getD (0,[])
def xpI (a b:LA):=Iter (xes b (↑b.length:Int)) ((xpD a b).fst,0,(xpD a b).snd)
def xpJ (a b:LA):=(xpI a b).getD (0,[])
def xks (a b:LA):=(xpJ a b).fst
def xky (a b:LA):=(xpJ a b).snd
def xru {T:Type} (a b:LA) (δ:T) (κ:LA→T):T:=br ((Iter (xcT b a (↑a.length:Int)) (0,0,[])).isSome) (br ((xpI a b).isSome) (br ((xks a b).beq (xky a b).length&&(decide (xks a b<4611686018427387904)&&(xky a b).all isE)) (br (decide (0+xks a b≤(srtE (xky a b)).length)&&true) (κ (List.take (xks a b) (List.drop 0 (srtE (xky a b))))) δ) δ) δ) δ
def xiw (a b:LA):Option (LA):=xru a b none some
theorem xH9 (a b:LA):Enc (fun (p:LA)=>((AV.list 3 p):AV)) (xiw a b) (XF Tryz.prog xmL Tryz.f99 (Tryz.f99.body.getD .skip) [AV.list 2 a,AV.list 2 b]):=by
 refine eV (xru a b none (fun (p:LA)=>some ((AV.list 3 p):AV))) (by kernel_rfl) ?_;unfold xiw xru;repeat' first|exact eN|exact eS rfl|apply eB
def xAx:LA→Option (Bool×AV):=ocOf (sCons (sList 2 pAny) (sCons (sList 2 pAny) sNil)) fun (a,(b,_))=>((xiw a b).isSome,(AV.list 3 ((xiw a b).getD [])))
theorem xHt:OcOk Tryz.prog ITryz 99 (xAx):=xbg fun f h g=>by
 obtain ⟨a,⟨b,_⟩⟩:=f
 obtain ⟨c,e⟩:=Prod.mk.inj g
 refine xa7 (p:=xmL.pin) (xbd mxTryz (inv0Ok Tryz.prog _) rfl xC2 Tryz.func99 rfl (by kernel_rfl) xA9 ((xH9 _ _ _ (xac (d:=[]) c)).trans ?_))
 exact congrArg some e
def xIr:Env:=EKP3.with 99 xAx
theorem xF5:OrcOk Tryz.prog ITryz xIr:=xBo.with xHt
def xl9:Env:=xIr.fn 6 0 (lsOf []) (lpsOf [])
theorem xDU:OrcOk Tryz.prog (ITryz.at 0) xl9:=xF5.fn
theorem xBU:LoOk Tryz.prog (ITryz.at xl9.pin) xl9 (Tryz.f77.body.getD .skip):=xaD (by kernel_rfl)
def xmh (a b:Bool):Bool:=((a))
def xzo (a b:Bool):Bool:=true
def xB4 {T:Type} (a b:Bool) (δ:T) (κ:Bool→T):T:=κ (a)
theorem xJh (a b:Bool):Pre (xzo a b) (XF Tryz.prog xl9 Tryz.f77 (Tryz.f77.body.getD .skip) [AV.bool a,AV.bool b]) (AV.bool (xmh a b)):=by
 have h:XF Tryz.prog xl9 Tryz.f77 (Tryz.f77.body.getD .skip) [AV.bool a,AV.bool b]=xB4 a b none (fun (p:Bool)=>some ((AV.bool p):AV)):=by kernel_rfl
 rw [h];unfold xmh xzo xB4;repeat' (first|exact Pre.none|exact Pre.tt rfl|exact Pre.some rfl|refine Pre.l ?_|refine Pre.r ?_|refine Pre.br (f:=fun (p:Bool)=>((AV.bool p):AV)) ?_ ?_|refine Pre.brt (f:=fun (p:Bool)=>((AV.bool p):AV)) ?_ ?_)
def xCu:LA→Option (Bool×AV):=ocOf (sCons (sEq pBool) (sCons (sEq pBool) sNil)) fun (a,(b,_))=>(true,(AV.bool (xmh a b)))
theorem xJk:OcOk Tryz.prog ITryz 77 (xCu):=xbg fun c f d=>by
 obtain ⟨a,⟨g,_⟩⟩:=c
 obtain ⟨e,b⟩:=Prod.mk.inj d
 refine xa7 (p:=xl9.pin) (xbd mxTryz (inv0Ok Tryz.prog _) rfl xDU Tryz.func77 rfl (by kernel_rfl) xBU ((Pre.get (xJh _ _) rfl).trans ?_))
 exact congrArg some b
def xAn:Env:=xIr.with 77 xCu
theorem xvF:OrcOk Tryz.prog ITryz xAn:=xF5.with xJk
def xjb:Env:=xAn.fn 92 0 (lsOf []) (lpsOf [])
theorem xz6:OrcOk Tryz.prog (ITryz.at 0) xjb:=xvF.fn
theorem xvx:LoOk Tryz.prog (ITryz.at xjb.pin) xjb (loopAt Tryz.f76 1):=xaD (by kernel_rfl)
def xnR (l:LA) (i:Int):=decide (0≤i)&&decide (i<l.length)
def xoX {T:Type} (l:LA) (e:Nat) (d b c i:Int) (a:LA) (δ:T) (κl:(Int×Int×Int×LA)→T) (κr:(Int×Int×Int×LA)→T):T:=br (decide (i<l.length)) (br (xnR l i) (br (decide (i.toNat<l.length)&&hasSh1 (Sh.int .i64) ((l.getD i.toNat .top).cells.getD 0 .top)) (br (((l.getD i.toNat .top).cells.getD 0 .top).toInt==d) (br (xnR l i) (br (decide (i.toNat<l.length)&&hasSh1 (Sh.int .i64) ((l.getD i.toNat .top).cells.getD 1 .top)) (br (xnR l i) (br (decide (i.toNat<l.length)&&hasSh1 (Sh.int .i64) ((l.getD i.toNat .top).cells.getD 2 .top)) (κl (i64.wrap (b+((l.getD i.toNat .top).cells.getD 1 .top).toInt),i64.wrap (c+((l.getD i.toNat .top).cells.getD 2 .top).toInt),i64.wrap (i+1),a)) δ) δ) δ) δ) (κr (b,c,i,a))) δ) δ) (κr (b,c,i,a))
def xf6 (l:LA) (b:Nat) (c:Int):(Int×Int×Int×LA)→Option ((Int×Int×Int×LA)⊕(Int×Int×Int×LA)):=fun (d,e,i,a)=>xoX l b c d e i a none (fun s=>some (.inl s)) (fun p=>some (.inr p))
def xhJ (l:LA) (b:Nat) (c:Int):(Int×Int×Int×LA)→LA×List Box:=fun (d,e,i,a)=>([AV.func 77 [],AV.list 3 l,AV.osl 0 0 0 b,AV.int .i64 d,AV.int .i64 e,AV.int .i64 i,AV.int .i64 c],[⟨0,2,31,a,false,true⟩])
def xgJ (l:LA) (a:Nat) (b:Int):(Int×Int×Int×LA)→LR:=fun p=>(.leaf (.exit 2) [AV.func 77 [],AV.list 3 l,AV.osl 0 0 0 a,AV.int .i64 p.1,AV.int .i64 p.2.1,AV.int .i64 p.2.2.1,AV.int .i64 b] [⟨0,2,31,p.2.2.2,false,true⟩])
abbrev xBJ (a:LA) (H:List Box):=XR Tryz.prog xjb [2,7,8,9,10,11,12] [2,7,8,9,10,11,12] [(8,2,31)] (loopAt Tryz.f76 1) a H
theorem xBX (l:LA) (a:Nat) (b:Int) (s:Int×Int×Int×LA):Enc (encR (xhJ l a b) (xgJ l a b)) (xf6 l a b s) (xBJ (xhJ l a b s).1 (xhJ l a b s).2):=by
 obtain ⟨d,e,i,c⟩:=s
 refine eV (xoX l a b d e i c none (fun s=>some (encR (xhJ l a b) (xgJ l a b) (.inl s))) (fun p=>some (encR (xhJ l a b) (xgJ l a b) (.inr p)))) (by kernel_rfl) ?_;unfold xf6 xoX;repeat' first|exact eN|exact eS rfl|apply eB
def xnN:Lp:=lpOf [2,7,8,9,10,11,12] [2,7,8,9,10,11,12] [(8,2,31)] (pCons (pFunc 77 pNil) (pCons (pList 3 pAny) (pCons (pOsl 0 0 0) (pCons (pInt .i64) (pCons (pInt .i64) (pCons (pInt .i64) (pCons (pInt .i64) pNil))))))) (pCons (pBox 0 2 31 false true pAny) pNil) fun (_,(l,(a,(d,(e,(i,(c,_))))))) (b,_)=>((Iter (xf6 l a c) (d,e,i,b)).isSome,xgJ l a c ((Iter (xf6 l a c) (d,e,i,b)).getD (0,0,0,[])))
theorem xsd:LoopOk Tryz.prog (ITryz.at xjb.pin) xjb.nt (loopAt Tryz.f76 1) xnN:=xbm fun e f k g=>by
 obtain ⟨_,⟨l,⟨a,⟨h,⟨j,⟨i,⟨b,_⟩⟩⟩⟩⟩⟩⟩:=e
 obtain ⟨c,_⟩:=f
 obtain ⟨d,rfl⟩:=Prod.mk.inj g
 exact xa6 mxTryz (inv0Ok Tryz.prog _) rfl xz6 xvx (xhJ l a b) (xgJ l a b) (fun p=>by simp only [xgJ,LR.eval];first|(simp;done)|(repeat' split<;>simp)) (xBX l a b) (s:=(h,j,i,c)) (xac d)
def xi4:Env:=xAn.fn 92 0 (lsOf []) (lpsOf [(6,xnN)])
theorem xAQ:OrcOk Tryz.prog (ITryz.at 0) xi4:=xvF.fn
theorem xv0:LoOk Tryz.prog (ITryz.at xi4.pin) xi4 (loopAt Tryz.f76 0):=xbe (ls:=[loopAt Tryz.f76 1]) (by kernel_rfl) (lkC xsd lkN)
def xkH (a:Nat):=decide (0≤i64.wrap ((↑a:Int) - 1))&&decide (i64.wrap ((↑a:Int) - 1)<(↑a:Int))
def xsh (l:LA) (b:Nat) (d e i c:Int) (a:LA):=(Iter (xf6 l b c) (d,e,i,a)).getD (0,0,0,[])
def xco (a:Nat):Nat:=0+(i64.wrap ((↑a:Int) - 1)).toNat
def xtd (l:LA) (b:Nat) (d e i c:Int) (a:LA):=(xsh l b d e i c a).snd
def xer (l:LA) (b:Nat) (d e i c:Int) (a:LA):=(xsh l b d e i c a).fst
def xsU (l:LA) (b:Nat) (d e i c:Int) (a:LA):=(xtd l b d e i c a).snd
def xel (l:LA) (b:Nat) (d e i c:Int) (a:LA):=(xtd l b d e i c a).fst
def xa8 (l:LA) (b:Nat) (d e i c:Int) (a:LA):=(xsU l b d e i c a).snd
def xsW (l:LA) (b:Nat) (d e i c:Int) (a:LA):=xmh (decide (xer l b d e i c a>0)) (decide (xel l b d e i c a>0))
def xbc (l:LA) (b:Nat) (d e i c:Int) (a:LA):=(xsU l b d e i c a).fst
def xk3 (l:LA) (a:Nat) (d e i c:Int) (b:LA):=decide (xco a<(xa8 l a d e i c b).length)
def xtv (l:LA) (b:Nat) (d e i c:Int) (a:LA):=decide (xbc l b d e i c a<l.length)
def xo3 {T:Type} (l:LA) (a:Nat) (d e i c:Int) (b:LA) (δ:T) (κl:(Nat×Int×Int×Int×Int×LA)→T) (κr:(Nat×LA)→T):T:=br (decide (c<1099511627776)) (br ((Iter (xf6 l a c) (d,e,i,b)).isSome) (br (xtv l a d e i c b) (br (decide (0≤xbc l a d e i c b)&&xtv l a d e i c b) (br (decide ((xbc l a d e i c b).toNat<l.length)&&hasSh1 (Sh.int .i64) ((l.getD (xbc l a d e i c b).toNat .top).cells.getD 0 .top)) (br (xsW l a d e i c b) (br (decide ((↑a:Int)>0)) (br (xkH a) (br (xk3 l a d e i c b&&hasSh1 (Sh.int .i64) (((xa8 l a d e i c b).getD (xco a) .top).cells.getD 1 .top)) (br ((((xa8 l a d e i c b).getD (xco a) .top).cells.getD 1 .top).toInt==c) (br (xkH a) (br (xk3 l a d e i c b) (κl (a,xer l a d e i c b,xel l a d e i c b,xbc l a d e i c b,((l.getD (xbc l a d e i c b).toNat .top).cells.getD 0 .top).toInt,(xa8 l a d e i c b).set (xco a) (AV.agg (List.take 1 ((xa8 l a d e i c b).getD (xco a) .top).cells++[AV.int .i64 ((l.getD (xbc l a d e i c b).toNat .top).cells.getD 0 .top).toInt]++List.drop 2 ((xa8 l a d e i c b).getD (xco a) .top).cells)))) δ) δ) (br (a==(xa8 l a d e i c b).length&&(decide ((a+1)*16≤140737488355328)&&decide (a+1≤4611686018427387904))) (κl (a+1,xer l a d e i c b,xel l a d e i c b,xbc l a d e i c b,((l.getD (xbc l a d e i c b).toNat .top).cells.getD 0 .top).toInt,xa8 l a d e i c b++[AV.agg [AV.int .i64 c,AV.int .i64 ((l.getD (xbc l a d e i c b).toNat .top).cells.getD 0 .top).toInt]])) δ)) δ) δ) (br (a==(xa8 l a d e i c b).length&&(decide ((a+1)*16≤140737488355328)&&decide (a+1≤4611686018427387904))) (κl (a+1,xer l a d e i c b,xel l a d e i c b,xbc l a d e i c b,((l.getD (xbc l a d e i c b).toNat .top).cells.getD 0 .top).toInt,xa8 l a d e i c b++[AV.agg [AV.int .i64 c,AV.int .i64 ((l.getD (xbc l a d e i c b).toNat .top).cells.getD 0 .top).toInt]])) δ)) (κl (a,xer l a d e i c b,xel l a d e i c b,xbc l a d e i c b,((l.getD (xbc l a d e i c b).toNat .top).cells.getD 0 .top).toInt,xa8 l a d e i c b))) δ) δ) (br (xsW l a d e i c b) (br (decide ((↑a:Int)>0)) (br (xkH a) (br (xk3 l a d e i c b&&hasSh1 (Sh.int .i64) (((xa8 l a d e i c b).getD (xco a) .top).cells.getD 1 .top)) (br ((((xa8 l a d e i c b).getD (xco a) .top).cells.getD 1 .top).toInt==c) (br (xkH a) (br (xk3 l a d e i c b) (κl (a,xer l a d e i c b,xel l a d e i c b,xbc l a d e i c b,1099511627776,(xa8 l a d e i c b).set (xco a) (AV.agg (List.take 1 ((xa8 l a d e i c b).getD (xco a) .top).cells++[AV.int .i64 1099511627776]++List.drop 2 ((xa8 l a d e i c b).getD (xco a) .top).cells)))) δ) δ) (br (a==(xa8 l a d e i c b).length&&(decide ((a+1)*16≤140737488355328)&&decide (a+1≤4611686018427387904))) (κl (a+1,xer l a d e i c b,xel l a d e i c b,xbc l a d e i c b,1099511627776,xa8 l a d e i c b++[AV.agg [AV.int .i64 c,AV.int .i64 1099511627776]])) δ)) δ) δ) (br (a==(xa8 l a d e i c b).length&&(decide ((a+1)*16≤140737488355328)&&decide (a+1≤4611686018427387904))) (κl (a+1,xer l a d e i c b,xel l a d e i c b,xbc l a d e i c b,1099511627776,xa8 l a d e i c b++[AV.agg [AV.int .i64 c,AV.int .i64 1099511627776]])) δ)) (κl (a,xer l a d e i c b,xel l a d e i c b,xbc l a d e i c b,1099511627776,xa8 l a d e i c b)))) δ) (κr (a,b))
def xhn (l:LA):(Nat×Int×Int×Int×Int×LA)→Option ((Nat×Int×Int×Int×Int×LA)⊕(Nat×LA)):=fun (b,d,e,i,c,a)=>xo3 l b d e i c a none (fun s=>some (.inl s)) (fun p=>some (.inr p))
def xhL (l:LA):(Nat×Int×Int×Int×Int×LA)→LA×List Box:=fun (b,d,e,i,c,a)=>([AV.func 77 [],AV.list 3 l,AV.osl 0 0 0 b,AV.int .i64 d,AV.int .i64 e,AV.int .i64 i,AV.int .i64 c],[⟨0,2,31,a,false,true⟩])
def xgL (l:LA):(Nat×LA)→LR:=fun p=>(.leaf (.exit 0) [AV.osl 0 0 0 p.1] [⟨0,2,31,p.2,false,true⟩])
abbrev xBS (a:LA) (H:List Box):=XR Tryz.prog xi4 [2,7,8,9,10,11,12] [8] [(8,2,31)] (loopAt Tryz.f76 0) a H
theorem xBx (l:LA) (s:Nat×Int×Int×Int×Int×LA):Enc (encR (xhL l) (xgL l)) (xhn l s) (xBS (xhL l s).1 (xhL l s).2):=by
 obtain ⟨b,d,e,i,c,a⟩:=s
 refine eV (xo3 l b d e i c a none (fun s=>some (encR (xhL l) (xgL l) (.inl s))) (fun p=>some (encR (xhL l) (xgL l) (.inr p)))) (by kernel_rfl) ?_;unfold xhn xo3;repeat' first|exact eN|exact eS rfl|apply eB
def xtB:Lp:=lpOf [2,7,8,9,10,11,12] [8] [(8,2,31)] (pCons (pFunc 77 pNil) (pCons (pList 3 pAny) (pCons (pOsl 0 0 0) (pCons (pInt .i64) (pCons (pInt .i64) (pCons (pInt .i64) (pCons (pInt .i64) pNil))))))) (pCons (pBox 0 2 31 false true pAny) pNil) fun (_,(l,(b,(d,(e,(i,(c,_))))))) (a,_)=>((Iter (xhn l) (b,d,e,i,c,a)).isSome,xgL l ((Iter (xhn l) (b,d,e,i,c,a)).getD (0,[])))
theorem xzv:LoopOk Tryz.prog (ITryz.at xi4.pin) xi4.nt (loopAt Tryz.f76 0) xtB:=xbm fun e f k g=>by
 obtain ⟨_,⟨l,⟨b,⟨h,⟨j,⟨i,⟨c,_⟩⟩⟩⟩⟩⟩⟩:=e
 obtain ⟨a,_⟩:=f
 obtain ⟨d,rfl⟩:=Prod.mk.inj g
 exact xa6 mxTryz (inv0Ok Tryz.prog _) rfl xAQ xv0 (xhL l) (xgL l) (fun p=>by simp only [xgL,LR.eval];first|(simp;done)|(repeat' split<;>simp)) (xBx l) (s:=(b,h,j,i,c,a)) (xac d)
def xlf:Env:=xAn.fn 92 0 (lsOf []) (lpsOf [(6,xnN),(5,xtB)])
theorem xA7:OrcOk Tryz.prog (ITryz.at 0) xlf:=xvF.fn
theorem xyB:LoOk Tryz.prog (ITryz.at xlf.pin) xlf (Tryz.f76.body.getD .skip):=xbe (ls:=[loopAt Tryz.f76 0,loopAt Tryz.f76 1]) (by kernel_rfl) (lkC xzv (lkC xsd lkN))
def xvT (a b:LA):=Iter (xhn ((xiw a b).getD [])) (0,0,0,0,0,[])
def xvQ (a b:LA):=(xvT a b).getD (0,[])
def xvz (a b:LA):=(xvQ a b).snd
def xvL (a b:LA):=(xvQ a b).fst
def xsH {T:Type} (a b:LA) (δ:T) (κ:LA→T):T:=br ((xiw a b).isSome) (br ((xvT a b).isSome) (br (decide (0+xvL a b≤(xvz a b).length)&&true) (κ (List.take (xvL a b) (List.drop 0 (xvz a b)))) δ) δ) δ
def xj4 (a b:LA):Option (LA):=xsH a b none some
theorem xFk (a b:LA):Enc (fun (p:LA)=>((AV.list 2 p):AV)) (xj4 a b) (XF Tryz.prog xlf Tryz.f76 (Tryz.f76.body.getD .skip) [AV.list 2 a,AV.list 2 b,AV.func (77:FuncId) []]):=by
 refine eV (xsH a b none (fun (p:LA)=>some ((AV.list 2 p):AV))) (by kernel_rfl) ?_;unfold xj4 xsH;repeat' first|exact eN|exact eS rfl|apply eB
def xwM:LA→Option (Bool×AV):=ocOf (sCons (sList 2 pAny) (sCons (sList 2 pAny) (sCons (sEq (pFunc (77:FuncId) pNil)) sNil))) fun (a,(b,(_,_)))=>((xj4 a b).isSome,(AV.list 2 ((xj4 a b).getD [])))
theorem xFB:OcOk Tryz.prog ITryz 76 (xwM):=xbg fun f h g=>by
 obtain ⟨a,⟨b,⟨_,_⟩⟩⟩:=f
 obtain ⟨c,e⟩:=Prod.mk.inj g
 refine xa7 (p:=xlf.pin) (xbd mxTryz (inv0Ok Tryz.prog _) rfl xA7 Tryz.func76 rfl (by kernel_rfl) xyB ((xFk _ _ _ (xac (d:=[]) c)).trans ?_))
 exact congrArg some e
def xH5:Env:=xAn.with 76 xwM
theorem xF6:OrcOk Tryz.prog ITryz xH5:=xvF.with xFB
def xrF:Env:=xH5.fn 5 0 (lsOf []) (lpsOf [])
theorem xHa:OrcOk Tryz.prog (ITryz.at 0) xrF:=xF6.fn
theorem xEq:LoOk Tryz.prog (ITryz.at xrF.pin) xrF (Tryz.f49.body.getD .skip):=xaD (by kernel_rfl)
def xvK {T:Type} (l:LA) (δ:T) (κ:LA→T):T:=br ((xj4 l []).isSome) (κ ((xj4 l []).getD [])) δ
def xlL (l:LA):Option (LA):=xvK l none some
theorem xLt (l:LA):Enc (fun (p:LA)=>((AV.list 2 p):AV)) (xlL l) (XF Tryz.prog xrF Tryz.f49 (Tryz.f49.body.getD .skip) [AV.list 2 l]):=by
 refine eV (xvK l none (fun (p:LA)=>some ((AV.list 2 p):AV))) (by kernel_rfl) ?_;unfold xlL xvK;repeat' first|exact eN|exact eS rfl|apply eB
def xGD:LA→Option (Bool×AV):=ocOf (sCons (sList 2 pAny) sNil) fun (l,_)=>((xlL l).isSome,(AV.list 2 ((xlL l).getD [])))
theorem xM2:OcOk Tryz.prog ITryz 49 (xGD):=xbg fun c f e=>by
 obtain ⟨l,_⟩:=c
 obtain ⟨a,b⟩:=Prod.mk.inj e
 refine xa7 (p:=xrF.pin) (xbd mxTryz (inv0Ok Tryz.prog _) rfl xHa Tryz.func49 rfl (by kernel_rfl) xEq ((xLt _ _ (xac (d:=[]) a)).trans ?_))
 exact congrArg some b
def xM1:Env:=xH5.with 49 xGD
theorem xMc:OrcOk Tryz.prog ITryz xM1:=xF6.with xM2
abbrev EKP4:Env:=xM1
theorem xBi:OrcOk Tryz.prog ITryz EKP4:=xMc
end Go.Sim.M
end
noncomputable section
set_option maxRecDepth 100000
namespace Go.Sim.M
open Go.IntKind (i64 u64 u8)
open Go.RowKit Go.Proofs
def xgs:Env:=EKP4.fn 38 0 (lsOf [42]) (lpsOf [])
theorem xwa:OrcOk Tryz.prog (ITryz.at 0) xgs:=xBi.fn
theorem xtF:LoOk Tryz.prog (ITryz.at xgs.pin) xgs (loopAt Tryz.f42 1):=xaD (by kernel_rfl)
def xgZ {T:Type} (h:LA) (i j:Int) (e:LA) (f:Int) (a:Nat) (b:Int) (c d g:LA) (δ:T) (κl:(Nat×Int×LA×LA×LA)→T) (κr:(Nat×LA)→T):T:=br (decide (b<f)) (br (decide (0≤b)&&decide (b<e.length)) (br (decide (b.toNat<e.length)&&((e.getD b.toNat .top).cells.length==2&&hasShs [Sh.int .i64,Sh.int .i64] (e.getD b.toNat .top).cells 0)) (br (decide (d.length*32≤140737488355328)&&decide (d.length≤4611686018427387904)) (br (decide (0+d.length≤d.length)&&true&&true&&true&&true) (br (a==c.length&&(decide ((a+1)*40≤140737488355328)&&decide (a+1≤4611686018427387904))) (κl (a+1,i64.wrap (b+1),c++[AV.agg [AV.list 3 (List.take d.length (List.drop 0 d)),AV.int .i64 ((e.getD b.toNat .top).cells.getD 0 .top).toInt,AV.int .i64 ((e.getD b.toNat .top).cells.getD 1 .top).toInt]],d,g)) δ) δ) δ) δ) δ) (κr (a,c))
def xcb (c:LA) (d e:Int) (f:LA) (g:Int):(Nat×Int×LA×LA×LA)→Option ((Nat×Int×LA×LA×LA)⊕(Nat×LA)):=fun (b,h,a,i,j)=>xgZ c d e f g b h a i j none (fun s=>some (.inl s)) (fun p=>some (.inr p))
def xfH (c:LA) (d e:Int) (f:LA) (g:Int):(Nat×Int×LA×LA×LA)→LA×List Box:=fun (b,h,a,i,j)=>([AV.func 43 [],AV.osl 0 0 0 b,AV.own 1 0 0 0,AV.list 2 c,AV.int .i64 d,AV.int .i64 e,AV.list 2 f,AV.int .i64 g,AV.int .i64 h],[⟨0,3,42,a,false,true⟩,⟨0,2,83,[AV.agg [AV.list 3 i,AV.list 2 j]],false,true⟩])
def xeT (a:LA) (b c:Int) (d:LA) (e:Int):(Nat×LA)→LR:=fun p=>(.leaf (.exit 2) [AV.func 43 [],AV.osl 0 0 0 p.1,AV.list 2 a,AV.int .i64 b,AV.int .i64 c] [⟨0,3,42,p.2,false,true⟩])
abbrev xyd (a:LA) (H:List Box):=XR Tryz.prog xgs [1,5,7,11,12,13,20,21,22] [1,5,11,12,13] [(5,3,42)] (loopAt Tryz.f42 1) a H
theorem xyk (a:LA) (b c:Int) (d:LA) (e:Int) (s:Nat×Int×LA×LA×LA):Enc (encR (xfH a b c d e) (xeT a b c d e)) (xcb a b c d e s) (xyd (xfH a b c d e s).1 (xfH a b c d e s).2):=by
 obtain ⟨g,h,f,i,j⟩:=s
 refine eV (xgZ a b c d e g h f i j none (fun s=>some (encR (xfH a b c d e) (xeT a b c d e) (.inl s))) (fun p=>some (encR (xfH a b c d e) (xeT a b c d e) (.inr p)))) (by kernel_rfl) ?_;unfold xcb xgZ;repeat' first|exact eN|exact eS rfl|apply eB
def xll:Lp:=lpOf [1,5,7,11,12,13,20,21,22] [1,5,11,12,13] [(5,3,42)] (pCons (pFunc 43 pNil) (pCons (pOsl 0 0 0) (pCons (pOwn 1 0 0 0) (pCons (pList 2 pAny) (pCons (pInt .i64) (pCons (pInt .i64) (pCons (pList 2 pAny) (pCons (pInt .i64) (pCons (pInt .i64) pNil))))))))) (pCons (pBox 0 3 42 false true pAny) (pCons (pBox 0 2 83 false true (pCons (pAgg (pCons (pList 3 pAny) (pCons (pList 2 pAny) pNil))) pNil)) pNil)) fun (_,(b,(_,(c,(d,(e,(f,(g,(h,_))))))))) (a,(((i,(j,_)),_),_))=>((Iter (xcb c d e f g) (b,h,a,i,j)).isSome,xeT c d e f g ((Iter (xcb c d e f g) (b,h,a,i,j)).getD (0,[])))
theorem xoP:LoopOk Tryz.prog (ITryz.at xgs.pin) xgs.nt (loopAt Tryz.f42 1) xll:=xbm fun l m o n=>by
 obtain ⟨_,⟨g,⟨_,⟨a,⟨b,⟨c,⟨d,⟨e,⟨h,_⟩⟩⟩⟩⟩⟩⟩⟩⟩:=l
 obtain ⟨f,⟨⟨⟨i,⟨j,_⟩⟩,_⟩,_⟩⟩:=m
 obtain ⟨k,rfl⟩:=Prod.mk.inj n
 exact xa6 mxTryz (inv0Ok Tryz.prog _) rfl xwa xtF (xfH a b c d e) (xeT a b c d e) (fun p=>by simp only [xeT,LR.eval];first|(simp;done)|(repeat' split<;>simp)) (xyk a b c d e) (s:=(g,h,f,i,j)) (xac k)
def xgM:Env:=EKP4.fn 38 0 (lsOf [42]) (lpsOf [(6,xll)])
theorem xv9:OrcOk Tryz.prog (ITryz.at 0) xgM:=xBi.fn
theorem xtI:LoOk Tryz.prog (ITryz.at xgM.pin) xgM (loopAt Tryz.f42 0):=xbe (ls:=[loopAt Tryz.f42 1]) (by kernel_rfl) (lkC xoP lkN)
def xlq (a:LA) (e:Int) (d:Nat) (b:Int) (c:LA):=Iter (xcb a e b ((xe4 ((a.getD b.toNat .top).cells.getD 1 .top).toList).getD []) (↑((xe4 ((a.getD b.toNat .top).cells.getD 1 .top).toList).getD []).length:Int)) (d,0,c,((a.getD b.toNat .top).cells.getD 0 .top).toList,((a.getD b.toNat .top).cells.getD 1 .top).toList)
def xlt (c:LA) (d:Int) (b:Nat) (e:Int) (a:LA):=(xlq c d b e a).getD (0,[])
def xg4 {T:Type} (c:LA) (e:Int) (d:Nat) (a:Int) (b:LA) (δ:T) (κl:(Nat×Int×LA)→T) (κr:(Nat×LA)→T):T:=br (decide (a<e)) (br (decide (0≤a)&&decide (a<c.length)) (br (decide (a.toNat<c.length)&&((c.getD a.toNat .top).cells.length==2&&hasShs [Sh.list 3,Sh.list 2] (c.getD a.toNat .top).cells 0)) (br ((xe4 ((c.getD a.toNat .top).cells.getD 1 .top).toList).isSome) (br ((xlq c e d a b).isSome) (κl ((xlt c e d a b).fst,i64.wrap (a+1),(xlt c e d a b).snd)) δ) δ) δ) δ) (κr (d,b))
def xcV (c:LA) (d:Int):(Nat×Int×LA)→Option ((Nat×Int×LA)⊕(Nat×LA)):=fun (b,e,a)=>xg4 c d b e a none (fun s=>some (.inl s)) (fun p=>some (.inr p))
def xfB (c:LA) (d:Int):(Nat×Int×LA)→LA×List Box:=fun (b,e,a)=>([AV.func 43 [],AV.osl 0 0 0 b,AV.list 2 c,AV.int .i64 d,AV.int .i64 e],[⟨0,3,42,a,false,true⟩])
def xeU (a:LA) (b:Int):(Nat×LA)→LR:=fun p=>(.leaf (.exit 0) [AV.osl 0 0 0 p.1] [⟨0,3,42,p.2,false,true⟩])
abbrev xwX (a:LA) (H:List Box):=XR Tryz.prog xgM [1,5,11,12,13] [5] [(5,3,42)] (loopAt Tryz.f42 0) a H
theorem xwT (a:LA) (b:Int) (s:Nat×Int×LA):Enc (encR (xfB a b) (xeU a b)) (xcV a b s) (xwX (xfB a b s).1 (xfB a b s).2):=by
 obtain ⟨d,e,c⟩:=s
 refine eV (xg4 a b d e c none (fun s=>some (encR (xfB a b) (xeU a b) (.inl s))) (fun p=>some (encR (xfB a b) (xeU a b) (.inr p)))) (by kernel_rfl) ?_;unfold xcV xg4;repeat' first|exact eN|exact eS rfl|apply eB
def xpb:Lp:=lpOf [1,5,11,12,13] [5] [(5,3,42)] (pCons (pFunc 43 pNil) (pCons (pOsl 0 0 0) (pCons (pList 2 pAny) (pCons (pInt .i64) (pCons (pInt .i64) pNil))))) (pCons (pBox 0 3 42 false true pAny) pNil) fun (_,(b,(c,(d,(e,_))))) (a,_)=>((Iter (xcV c d) (b,e,a)).isSome,xeU c d ((Iter (xcV c d) (b,e,a)).getD (0,[])))
theorem xvh:LoopOk Tryz.prog (ITryz.at xgM.pin) xgM.nt (loopAt Tryz.f42 0) xpb:=xbm fun g h j i=>by
 obtain ⟨_,⟨d,⟨a,⟨b,⟨e,_⟩⟩⟩⟩⟩:=g
 obtain ⟨c,_⟩:=h
 obtain ⟨f,rfl⟩:=Prod.mk.inj i
 exact xa6 mxTryz (inv0Ok Tryz.prog _) rfl xv9 xtI (xfB a b) (xeU a b) (fun p=>by simp only [xeU,LR.eval];first|(simp;done)|(repeat' split<;>simp)) (xwT a b) (s:=(d,e,c)) (xac f)
def xh9:Env:=EKP4.fn 38 0 (lsOf [42]) (lpsOf [(6,xll),(3,xpb)])
theorem xwK:OrcOk Tryz.prog (ITryz.at 0) xh9:=xBi.fn
theorem xuM:LoOk Tryz.prog (ITryz.at xh9.pin) xh9 (Tryz.f42.body.getD .skip):=xbe (ls:=[loopAt Tryz.f42 0,loopAt Tryz.f42 1]) (by kernel_rfl) (lkC xvh (lkC xoP lkN))
def xmx (l:LA):=Iter (xcV ((xeH l).getD []) (↑((xeH l).getD []).length:Int)) (0,0,[])
def xm7 (l:LA):=(xmx l).getD (0,[])
def xmY (l:LA):=(xm7 l).snd
def xm6 (l:LA):=(xm7 l).fst
def xkJ {T:Type} (l:LA) (δ:T) (κ:LA→T):T:=br ((xeH l).isSome) (br ((xmx l).isSome) (br (decide (0+xm6 l≤(xmY l).length)&&true) (κ (List.take (xm6 l) (List.drop 0 (xmY l)))) δ) δ) δ
def xgV (l:LA):Option (LA):=xkJ l none some
theorem xzx (l:LA):Enc (fun (p:LA)=>((AV.list 3 p):AV)) (xgV l) (XF Tryz.prog xh9 Tryz.f42 (Tryz.f42.body.getD .skip) [AV.list 3 l,AV.func (43:FuncId) []]):=by
 refine eV (xkJ l none (fun (p:LA)=>some ((AV.list 3 p):AV))) (by kernel_rfl) ?_;unfold xgV xkJ;repeat' first|exact eN|exact eS rfl|apply eB
def xts:LA→Option (Bool×AV):=ocOf (sCons (sList 3 pAny) (sCons (sEq (pFunc (43:FuncId) pNil)) sNil)) fun (l,(_,_))=>((xgV l).isSome,(AV.list 3 ((xgV l).getD [])))
theorem xAz:OcOk Tryz.prog ITryz 42 (xts):=xbg fun c f e=>by
 obtain ⟨l,⟨_,_⟩⟩:=c
 obtain ⟨a,b⟩:=Prod.mk.inj e
 refine xa7 (p:=xh9.pin) (xbd mxTryz (inv0Ok Tryz.prog _) rfl xwK Tryz.func42 rfl (by kernel_rfl) xuM ((xzx _ _ (xac (d:=[]) a)).trans ?_))
 exact congrArg some b
def xIY:Env:=EKP4.with 42 xts
theorem xGA:OrcOk Tryz.prog ITryz xIY:=xBi.with xAz
def xkT:Env:=xIY.fn 5 0 (lsOf []) (lpsOf [])
theorem xAV:OrcOk Tryz.prog (ITryz.at 0) xkT:=xGA.fn
theorem xy3:LoOk Tryz.prog (ITryz.at xkT.pin) xkT (Tryz.f14.body.getD .skip):=xaD (by kernel_rfl)
def xoI {T:Type} (l:LA) (δ:T) (κ:LA→T):T:=br ((xgV l).isSome) (κ ((xgV l).getD [])) δ
def xdM (l:LA):Option (LA):=xoI l none some
theorem xFe (l:LA):Enc (fun (p:LA)=>((AV.list 3 p):AV)) (xdM l) (XF Tryz.prog xkT Tryz.f14 (Tryz.f14.body.getD .skip) [AV.list 3 l]):=by
 refine eV (xoI l none (fun (p:LA)=>some ((AV.list 3 p):AV))) (by kernel_rfl) ?_;unfold xdM xoI;repeat' first|exact eN|exact eS rfl|apply eB
def xw3:LA→Option (Bool×AV):=ocOf (sCons (sList 3 pAny) sNil) fun (l,_)=>((xdM l).isSome,(AV.list 3 ((xdM l).getD [])))
theorem xFi:OcOk Tryz.prog ITryz 14 (xw3):=xbg fun c f e=>by
 obtain ⟨l,_⟩:=c
 obtain ⟨a,b⟩:=Prod.mk.inj e
 refine xa7 (p:=xkT.pin) (xbd mxTryz (inv0Ok Tryz.prog _) rfl xAV Tryz.func14 rfl (by kernel_rfl) xy3 ((xFe _ _ (xac (d:=[]) a)).trans ?_))
 exact congrArg some b
def xAs:Env:=xIY.with 14 xw3
theorem xvt:OrcOk Tryz.prog ITryz xAs:=xGA.with xFi
def xgE:Env:=xAs.fn 38 0 (lsOf [42]) (lpsOf [])
theorem xwE:OrcOk Tryz.prog (ITryz.at 0) xgE:=xvt.fn
theorem xtG:LoOk Tryz.prog (ITryz.at xgE.pin) xgE (loopAt Tryz.f42 1):=xaD (by kernel_rfl)
def xlO {T:Type} (h:LA) (i j:Int) (e:LA) (f:Int) (a:Nat) (b:Int) (c d g:LA) (δ:T) (κl:(Nat×Int×LA×LA×LA)→T) (κr:(Nat×LA)→T):T:=br (decide (b<f)) (br (decide (0≤b)&&decide (b<e.length)) (br (decide (b.toNat<e.length)&&((e.getD b.toNat .top).cells.length==2&&hasShs [Sh.int .i64,Sh.int .i64] (e.getD b.toNat .top).cells 0)) (br (decide (d.length*32≤140737488355328)&&decide (d.length≤4611686018427387904)) (br (decide (0+d.length≤d.length)&&true&&true&&true&&true) (br (a==c.length&&(decide ((a+1)*40≤140737488355328)&&decide (a+1≤4611686018427387904))) (κl (a+1,i64.wrap (b+1),c++[AV.agg [AV.list 3 (List.take d.length (List.drop 0 d)),AV.int .i64 ((e.getD b.toNat .top).cells.getD 0 .top).toInt,AV.int .i64 ((e.getD b.toNat .top).cells.getD 1 .top).toInt]],d,g)) δ) δ) δ) δ) δ) (κr (a,c))
def xeK (c:LA) (d e:Int) (f:LA) (g:Int):(Nat×Int×LA×LA×LA)→Option ((Nat×Int×LA×LA×LA)⊕(Nat×LA)):=fun (b,h,a,i,j)=>xlO c d e f g b h a i j none (fun s=>some (.inl s)) (fun p=>some (.inr p))
def xfE (c:LA) (d e:Int) (f:LA) (g:Int):(Nat×Int×LA×LA×LA)→LA×List Box:=fun (b,h,a,i,j)=>([AV.func 49 [],AV.osl 0 0 0 b,AV.own 1 0 0 0,AV.list 2 c,AV.int .i64 d,AV.int .i64 e,AV.list 2 f,AV.int .i64 g,AV.int .i64 h],[⟨0,3,42,a,false,true⟩,⟨0,2,83,[AV.agg [AV.list 3 i,AV.list 2 j]],false,true⟩])
def xeS (a:LA) (b c:Int) (d:LA) (e:Int):(Nat×LA)→LR:=fun p=>(.leaf (.exit 2) [AV.func 49 [],AV.osl 0 0 0 p.1,AV.list 2 a,AV.int .i64 b,AV.int .i64 c] [⟨0,3,42,p.2,false,true⟩])
abbrev xwZ (a:LA) (H:List Box):=XR Tryz.prog xgE [1,5,7,11,12,13,20,21,22] [1,5,11,12,13] [(5,3,42)] (loopAt Tryz.f42 1) a H
theorem xwx (a:LA) (b c:Int) (d:LA) (e:Int) (s:Nat×Int×LA×LA×LA):Enc (encR (xfE a b c d e) (xeS a b c d e)) (xeK a b c d e s) (xwZ (xfE a b c d e s).1 (xfE a b c d e s).2):=by
 obtain ⟨g,h,f,i,j⟩:=s
 refine eV (xlO a b c d e g h f i j none (fun s=>some (encR (xfE a b c d e) (xeS a b c d e) (.inl s))) (fun p=>some (encR (xfE a b c d e) (xeS a b c d e) (.inr p)))) (by kernel_rfl) ?_;unfold xeK xlO;repeat' first|exact eN|exact eS rfl|apply eB
def xln:Lp:=lpOf [1,5,7,11,12,13,20,21,22] [1,5,11,12,13] [(5,3,42)] (pCons (pFunc 49 pNil) (pCons (pOsl 0 0 0) (pCons (pOwn 1 0 0 0) (pCons (pList 2 pAny) (pCons (pInt .i64) (pCons (pInt .i64) (pCons (pList 2 pAny) (pCons (pInt .i64) (pCons (pInt .i64) pNil))))))))) (pCons (pBox 0 3 42 false true pAny) (pCons (pBox 0 2 83 false true (pCons (pAgg (pCons (pList 3 pAny) (pCons (pList 2 pAny) pNil))) pNil)) pNil)) fun (_,(b,(_,(c,(d,(e,(f,(g,(h,_))))))))) (a,(((i,(j,_)),_),_))=>((Iter (xeK c d e f g) (b,h,a,i,j)).isSome,xeS c d e f g ((Iter (xeK c d e f g) (b,h,a,i,j)).getD (0,[])))
theorem xoN:LoopOk Tryz.prog (ITryz.at xgE.pin) xgE.nt (loopAt Tryz.f42 1) xln:=xbm fun l m o n=>by
 obtain ⟨_,⟨g,⟨_,⟨a,⟨b,⟨c,⟨d,⟨e,⟨h,_⟩⟩⟩⟩⟩⟩⟩⟩⟩:=l
 obtain ⟨f,⟨⟨⟨i,⟨j,_⟩⟩,_⟩,_⟩⟩:=m
 obtain ⟨k,rfl⟩:=Prod.mk.inj n
 exact xa6 mxTryz (inv0Ok Tryz.prog _) rfl xwE xtG (xfE a b c d e) (xeS a b c d e) (fun p=>by simp only [xeS,LR.eval];first|(simp;done)|(repeat' split<;>simp)) (xwx a b c d e) (s:=(g,h,f,i,j)) (xac k)
def xgv:Env:=xAs.fn 38 0 (lsOf [42]) (lpsOf [(6,xln)])
theorem xwL:OrcOk Tryz.prog (ITryz.at 0) xgv:=xvt.fn
theorem xtJ:LoOk Tryz.prog (ITryz.at xgv.pin) xgv (loopAt Tryz.f42 0):=xbe (ls:=[loopAt Tryz.f42 1]) (by kernel_rfl) (lkC xoN lkN)
def xlv (a:LA) (e:Int) (d:Nat) (b:Int) (c:LA):=Iter (xeK a e b ((xlL ((a.getD b.toNat .top).cells.getD 1 .top).toList).getD []) (↑((xlL ((a.getD b.toNat .top).cells.getD 1 .top).toList).getD []).length:Int)) (d,0,c,((a.getD b.toNat .top).cells.getD 0 .top).toList,((a.getD b.toNat .top).cells.getD 1 .top).toList)
def xlu (c:LA) (d:Int) (b:Nat) (e:Int) (a:LA):=(xlv c d b e a).getD (0,[])
def xg3 {T:Type} (c:LA) (e:Int) (d:Nat) (a:Int) (b:LA) (δ:T) (κl:(Nat×Int×LA)→T) (κr:(Nat×LA)→T):T:=br (decide (a<e)) (br (decide (0≤a)&&decide (a<c.length)) (br (decide (a.toNat<c.length)&&((c.getD a.toNat .top).cells.length==2&&hasShs [Sh.list 3,Sh.list 2] (c.getD a.toNat .top).cells 0)) (br ((xlL ((c.getD a.toNat .top).cells.getD 1 .top).toList).isSome) (br ((xlv c e d a b).isSome) (κl ((xlu c e d a b).fst,i64.wrap (a+1),(xlu c e d a b).snd)) δ) δ) δ) δ) (κr (d,b))
def xcX (c:LA) (d:Int):(Nat×Int×LA)→Option ((Nat×Int×LA)⊕(Nat×LA)):=fun (b,e,a)=>xg3 c d b e a none (fun s=>some (.inl s)) (fun p=>some (.inr p))
def xfA (c:LA) (d:Int):(Nat×Int×LA)→LA×List Box:=fun (b,e,a)=>([AV.func 49 [],AV.osl 0 0 0 b,AV.list 2 c,AV.int .i64 d,AV.int .i64 e],[⟨0,3,42,a,false,true⟩])
def xeP (a:LA) (b:Int):(Nat×LA)→LR:=fun p=>(.leaf (.exit 0) [AV.osl 0 0 0 p.1] [⟨0,3,42,p.2,false,true⟩])
abbrev xyn (a:LA) (H:List Box):=XR Tryz.prog xgv [1,5,11,12,13] [5] [(5,3,42)] (loopAt Tryz.f42 0) a H
theorem xwU (a:LA) (b:Int) (s:Nat×Int×LA):Enc (encR (xfA a b) (xeP a b)) (xcX a b s) (xyn (xfA a b s).1 (xfA a b s).2):=by
 obtain ⟨d,e,c⟩:=s
 refine eV (xg3 a b d e c none (fun s=>some (encR (xfA a b) (xeP a b) (.inl s))) (fun p=>some (encR (xfA a b) (xeP a b) (.inr p)))) (by kernel_rfl) ?_;unfold xcX xg3;repeat' first|exact eN|exact eS rfl|apply eB
def xpl:Lp:=lpOf [1,5,11,12,13] [5] [(5,3,42)] (pCons (pFunc 49 pNil) (pCons (pOsl 0 0 0) (pCons (pList 2 pAny) (pCons (pInt .i64) (pCons (pInt .i64) pNil))))) (pCons (pBox 0 3 42 false true pAny) pNil) fun (_,(b,(c,(d,(e,_))))) (a,_)=>((Iter (xcX c d) (b,e,a)).isSome,xeP c d ((Iter (xcX c d) (b,e,a)).getD (0,[])))
theorem xvc:LoopOk Tryz.prog (ITryz.at xgv.pin) xgv.nt (loopAt Tryz.f42 0) xpl:=xbm fun g h j i=>by
 obtain ⟨_,⟨d,⟨a,⟨b,⟨e,_⟩⟩⟩⟩⟩:=g
 obtain ⟨c,_⟩:=h
 obtain ⟨f,rfl⟩:=Prod.mk.inj i
 exact xa6 mxTryz (inv0Ok Tryz.prog _) rfl xwL xtJ (xfA a b) (xeP a b) (fun p=>by simp only [xeP,LR.eval];first|(simp;done)|(repeat' split<;>simp)) (xwU a b) (s:=(d,e,c)) (xac f)
def xh8:Env:=xAs.fn 38 0 (lsOf [42]) (lpsOf [(6,xln),(3,xpl)])
theorem xwB:OrcOk Tryz.prog (ITryz.at 0) xh8:=xvt.fn
theorem xuA:LoOk Tryz.prog (ITryz.at xh8.pin) xh8 (Tryz.f42.body.getD .skip):=xbe (ls:=[loopAt Tryz.f42 0,loopAt Tryz.f42 1]) (by kernel_rfl) (lkC xvc (lkC xoN lkN))
def xmV (l:LA):=Iter (xcX ((xeH l).getD []) (↑((xeH l).getD []).length:Int)) (0,0,[])
def xmW (l:LA):=(xmV l).getD (0,[])
def xmX (l:LA):=(xmW l).snd
def xmZ (l:LA):=(xmW l).fst
def xk2 {T:Type} (l:LA) (δ:T) (κ:LA→T):T:=br ((xeH l).isSome) (br ((xmV l).isSome) (br (decide (0+xmZ l≤(xmX l).length)&&true) (κ (List.take (xmZ l) (List.drop 0 (xmX l)))) δ) δ) δ
def xgW (l:LA):Option (LA):=xk2 l none some
theorem xAX (l:LA):Enc (fun (p:LA)=>((AV.list 3 p):AV)) (xgW l) (XF Tryz.prog xh8 Tryz.f42 (Tryz.f42.body.getD .skip) [AV.list 3 l,AV.func (49:FuncId) []]):=by
 refine eV (xk2 l none (fun (p:LA)=>some ((AV.list 3 p):AV))) (by kernel_rfl) ?_;unfold xgW xk2;repeat' first|exact eN|exact eS rfl|apply eB
def xsT:LA→Option (Bool×AV):=ocOf (sCons (sList 3 pAny) (sCons (sEq (pFunc (49:FuncId) pNil)) sNil)) fun (l,(_,_))=>((xgW l).isSome,(AV.list 3 ((xgW l).getD [])))
theorem xz9:OcOk Tryz.prog ITryz 42 (xsT):=xbg fun c f e=>by
 obtain ⟨l,⟨_,_⟩⟩:=c
 obtain ⟨a,b⟩:=Prod.mk.inj e
 refine xa7 (p:=xh8.pin) (xbd mxTryz (inv0Ok Tryz.prog _) rfl xwB Tryz.func42 rfl (by kernel_rfl) xuA ((xAX _ _ (xac (d:=[]) a)).trans ?_))
 exact congrArg some b
def xIj:Env:=xAs.with 42 xsT
theorem xFx:OrcOk Tryz.prog ITryz xIj:=xvt.with xz9
def xkG:Env:=xIj.fn 5 0 (lsOf []) (lpsOf [])
theorem xzZ:OrcOk Tryz.prog (ITryz.at 0) xkG:=xFx.fn
theorem xyI:LoOk Tryz.prog (ITryz.at xkG.pin) xkG (Tryz.f16.body.getD .skip):=xaD (by kernel_rfl)
def xov {T:Type} (l:LA) (δ:T) (κ:LA→T):T:=br ((xgW l).isSome) (κ ((xgW l).getD [])) δ
def xeo (l:LA):Option (LA):=xov l none some
theorem xFz (l:LA):Enc (fun (p:LA)=>((AV.list 3 p):AV)) (xeo l) (XF Tryz.prog xkG Tryz.f16 (Tryz.f16.body.getD .skip) [AV.list 3 l]):=by
 refine eV (xov l none (fun (p:LA)=>some ((AV.list 3 p):AV))) (by kernel_rfl) ?_;unfold xeo xov;repeat' first|exact eN|exact eS rfl|apply eB
def xwP:LA→Option (Bool×AV):=ocOf (sCons (sList 3 pAny) sNil) fun (l,_)=>((xeo l).isSome,(AV.list 3 ((xeo l).getD [])))
theorem xE4:OcOk Tryz.prog ITryz 16 (xwP):=xbg fun c f e=>by
 obtain ⟨l,_⟩:=c
 obtain ⟨a,b⟩:=Prod.mk.inj e
 refine xa7 (p:=xkG.pin) (xbd mxTryz (inv0Ok Tryz.prog _) rfl xzZ Tryz.func16 rfl (by kernel_rfl) xyI ((xFz _ _ (xac (d:=[]) a)).trans ?_))
 exact congrArg some b
def xMo:Env:=xIj.with 16 xwP
theorem xMx:OrcOk Tryz.prog ITryz xMo:=xFx.with xE4
abbrev EKP5:Env:=xMo
theorem xBk:OrcOk Tryz.prog ITryz EKP5:=xMx
end Go.Sim.M
end
noncomputable section
set_option maxRecDepth 100000
namespace Go.Sim.M
open Go.IntKind (i64 u64 u8)
open Go.RowKit Go.Proofs
def xcA:Env:=EKP5.fn 53 1 (lsOf [40]) (lpsOf [])
theorem xog:OrcOk Tryz.prog (ITryz.at 1) xcA:=xBk.fn
theorem xmu:LoOk Tryz.prog (ITryz.at xcA.pin) xcA (loopAt Tryz.f157 1):=xaD (by kernel_rfl)
def xfY (a:Nat) (j:Int):=decide (0≤i64.wrap (j - 1))&&decide (i64.wrap (j - 1)<(↑a:Int))
def xbt (j:Int):Nat:=0+(i64.wrap (j - 1)).toNat
def xf4 (a:Nat) (j:Int):=decide (0≤j)&&decide (j<(↑a:Int))
def xi5 (j:Int) (a:LA):=decide (0+j.toNat<a.length)
def xje (j:Int) (a:LA):=decide (xbt j<a.length)&&hasSh1 (Sh.list 3) ((a.getD (xbt j) .top).cells.getD 0 .top)
def xix (j:Int) (a:LA):=xi5 j a&&hasSh1 (Sh.list 3) ((a.getD (0+j.toNat) .top).cells.getD 0 .top)
def xgn {T:Type} (d:Nat) (a b i j:Int) (c:LA) (δ:T) (κl:(Int×LA)→T) (κr:(LA)→T):T:=br (decide (j>a)) (br (xf4 d j) (br (xix j c) (br (xfY d j) (br (xje j c) (br ((xda ((c.getD (0+j.toNat) .top).cells.getD 0 .top).toList ((c.getD (xbt j) .top).cells.getD 0 .top).toList).isSome) (br (decide ((xda ((c.getD (0+j.toNat) .top).cells.getD 0 .top).toList ((c.getD (xbt j) .top).cells.getD 0 .top).toList).getD 0<0)) (br (xfY d j) (br (xje j c) (br (xf4 d j) (br (xix j c) (br (xf4 d j) (br (xi5 j c) (br (xfY d j) (br (decide (xbt j<(c.set (0+j.toNat) (AV.list 3 ((c.getD (xbt j) .top).cells.getD 0 .top).toList)).length)) (κl (i64.wrap (j - 1),(c.set (0+j.toNat) (AV.list 3 ((c.getD (xbt j) .top).cells.getD 0 .top).toList)).set (xbt j) (AV.list 3 ((c.getD (0+j.toNat) .top).cells.getD 0 .top).toList))) δ) δ) δ) δ) δ) δ) δ) δ) (κr (c))) δ) δ) δ) δ) δ) (κr (c))
def xbw (d:Nat) (a b i:Int):(Int×LA)→Option ((Int×LA)⊕(LA)):=fun (j,c)=>xgn d a b i j c none (fun s=>some (.inl s)) (fun p=>some (.inr p))
def xcg (d:Nat) (a b i:Int):(Int×LA)→LA×List Box:=fun (j,c)=>([AV.osl 0 0 0 d,AV.int .i64 a,AV.int .i64 b,AV.func 88 [],AV.int .i64 i,AV.int .i64 j],[⟨0,1,40,c,false,true⟩])
def xb2 (c:Nat) (a b i:Int):(LA)→LR:=fun p=>(.leaf (.exit 2) [AV.osl 0 0 0 c,AV.int .i64 a,AV.int .i64 b,AV.func 88 [],AV.int .i64 i] [⟨0,1,40,p,false,true⟩])
abbrev xo4 (a:LA) (H:List Box):=XR Tryz.prog xcA [0,1,2,3,8,9] [0,1,2,3,8] [] (loopAt Tryz.f157 1) a H
theorem xoV (c:Nat) (a b i:Int) (s:Int×LA):Enc (encR (xcg c a b i) (xb2 c a b i)) (xbw c a b i s) (xo4 (xcg c a b i s).1 (xcg c a b i s).2):=by
 obtain ⟨j,d⟩:=s
 refine eV (xgn c a b i j d none (fun s=>some (encR (xcg c a b i) (xb2 c a b i) (.inl s))) (fun p=>some (encR (xcg c a b i) (xb2 c a b i) (.inr p)))) (by kernel_rfl) ?_;unfold xbw xgn;repeat' first|exact eN|exact eS rfl|apply eB
def xge:Lp:=lpOf [0,1,2,3,8,9] [0,1,2,3,8] [] (pCons (pOsl 0 0 0) (pCons (pInt .i64) (pCons (pInt .i64) (pCons (pFunc 88 pNil) (pCons (pInt .i64) (pCons (pInt .i64) pNil)))))) (pCons (pBox 0 1 40 false true pAny) pNil) fun (c,(a,(b,(_,(i,(j,_)))))) (d,_)=>((Iter (xbw c a b i) (j,d)).isSome,xb2 c a b i ((Iter (xbw c a b i) (j,d)).getD []))
theorem xiF:LoopOk Tryz.prog (ITryz.at xcA.pin) xcA.nt (loopAt Tryz.f157 1) xge:=xbm fun f g k h=>by
 obtain ⟨c,⟨a,⟨b,⟨_,⟨i,⟨j,_⟩⟩⟩⟩⟩⟩:=f
 obtain ⟨d,_⟩:=g
 obtain ⟨e,rfl⟩:=Prod.mk.inj h
 exact xa6 mxTryz (inv0Ok Tryz.prog _) rfl xog xmu (xcg c a b i) (xb2 c a b i) (fun p=>by simp only [xb2,LR.eval];first|(simp;done)|(repeat' split<;>simp)) (xoV c a b i) (s:=(j,d)) (xac e)
def xcv:Env:=EKP5.fn 53 1 (lsOf [40]) (lpsOf [(4,xge)])
theorem xom:OrcOk Tryz.prog (ITryz.at 1) xcv:=xBk.fn
theorem xmn:LoOk Tryz.prog (ITryz.at xcv.pin) xcv (loopAt Tryz.f157 0):=xbe (ls:=[loopAt Tryz.f157 1]) (by kernel_rfl) (lkC xiF lkN)
def xgi {T:Type} (d:Nat) (a b i:Int) (c:LA) (δ:T) (κl:(Int×LA)→T) (κr:(LA)→T):T:=br (decide (i<b)) (br ((Iter (xbw d a b i) (i,c)).isSome) (κl (i64.wrap (i+1),(Iter (xbw d a b i) (i,c)).getD [])) δ) (κr (c))
def xbA (d:Nat) (a b:Int):(Int×LA)→Option ((Int×LA)⊕(LA)):=fun (i,c)=>xgi d a b i c none (fun s=>some (.inl s)) (fun p=>some (.inr p))
def xci (d:Nat) (a b:Int):(Int×LA)→LA×List Box:=fun (i,c)=>([AV.osl 0 0 0 d,AV.int .i64 a,AV.int .i64 b,AV.func 88 [],AV.int .i64 i],[⟨0,1,40,c,false,true⟩])
def xb0 (c:Nat) (a b:Int):(LA)→LR:=fun p=>(.leaf (.exit 0) [] [⟨0,1,40,p,false,true⟩])
abbrev xox (a:LA) (H:List Box):=XR Tryz.prog xcv [0,1,2,3,8] [] [] (loopAt Tryz.f157 0) a H
theorem xo6 (c:Nat) (a b:Int) (s:Int×LA):Enc (encR (xci c a b) (xb0 c a b)) (xbA c a b s) (xox (xci c a b s).1 (xci c a b s).2):=by
 obtain ⟨i,d⟩:=s
 refine eV (xgi c a b i d none (fun s=>some (encR (xci c a b) (xb0 c a b) (.inl s))) (fun p=>some (encR (xci c a b) (xb0 c a b) (.inr p)))) (by kernel_rfl) ?_;unfold xbA xgi;repeat' first|exact eN|exact eS rfl|apply eB
def xi8:Lp:=lpOf [0,1,2,3,8] [] [] (pCons (pOsl 0 0 0) (pCons (pInt .i64) (pCons (pInt .i64) (pCons (pFunc 88 pNil) (pCons (pInt .i64) pNil))))) (pCons (pBox 0 1 40 false true pAny) pNil) fun (c,(a,(b,(_,(i,_))))) (d,_)=>((Iter (xbA c a b) (i,d)).isSome,xb0 c a b ((Iter (xbA c a b) (i,d)).getD []))
theorem xnA:LoopOk Tryz.prog (ITryz.at xcv.pin) xcv.nt (loopAt Tryz.f157 0) xi8:=xbm fun f g j h=>by
 obtain ⟨c,⟨a,⟨b,⟨_,⟨i,_⟩⟩⟩⟩⟩:=f
 obtain ⟨d,_⟩:=g
 obtain ⟨e,rfl⟩:=Prod.mk.inj h
 exact xa6 mxTryz (inv0Ok Tryz.prog _) rfl xom xmn (xci c a b) (xb0 c a b) (fun p=>by simp only [xb0,LR.eval];first|(simp;done)|(repeat' split<;>simp)) (xo6 c a b) (s:=(i,d)) (xac e)
def xdN:Env:=EKP5.fn 53 1 (lsOf [40]) (lpsOf [(4,xge),(1,xi8)])
theorem xoA:OrcOk Tryz.prog (ITryz.at 1) xdN:=xBk.fn
theorem xm1:LoOk Tryz.prog (ITryz.at xdN.pin) xdN (Tryz.f157.body.getD .skip):=xbe (ls:=[loopAt Tryz.f157 0,loopAt Tryz.f157 1]) (by kernel_rfl) (lkC xnA (lkC xiF lkN))
def xe7 {T:Type} (n:Nat) (a b:Int) (c:LA) (δ:T) (κ:LA→T):T:=br ((Iter (xbA n a b) (i64.wrap (a+1),c)).isSome) (κ ((Iter (xbA n a b) (i64.wrap (a+1),c)).getD [])) δ
def xbs (n:Nat) (a b:Int) (c:LA):Option (LA):=xe7 n a b c none some
theorem xqr (n:Nat) (a b:Int) (xs:LA):Enc (fun (p:LA)=>(((AV.tuple [],([⟨0,1,40,p,false,true⟩]:List Box))):(AV×List Box))) (xbs n a b xs) (XFM Tryz.prog xdN Tryz.f157 (Tryz.f157.body.getD .skip) [AV.osl (0:Id) 0 0 n,AV.int .i64 a,AV.int .i64 b,AV.func (88:FuncId) []] [{ ver:=0,sz:=1,ty:=(40:TypeId),xs:=xs,frz:=false,pm:=true }]):=by
 refine eV (xe7 n a b xs none (fun (p:LA)=>some (((AV.tuple [],([⟨0,1,40,p,false,true⟩]:List Box))):(AV×List Box)))) (by kernel_rfl) ?_;unfold xbs xe7;repeat' first|exact eN|exact eS rfl|apply eB
def xke:LA→List Box→Option (Bool×AV×List Box):=omOf (sCons (sEq (pOsl 0 0 0)) (sCons (sEq (pInt .i64)) (sCons (sEq (pInt .i64)) (sCons (sEq (pFunc (88:FuncId) pNil)) sNil)))) (pCons (pBox 0 1 (40:TypeId) false true pAny) pNil) fun (n,(a,(b,(_,_)))) (c,_)=>((xbs n a b c).isSome,((AV.tuple [],([⟨0,1,40,((xbs n a b c).getD []),false,true⟩]:List Box))))
theorem xqB:OmOk Tryz.prog ITryz 157 (xke):=xeQ fun f g j i h=>by
 obtain ⟨n,⟨a,⟨b,⟨_,_⟩⟩⟩⟩:=f
 obtain ⟨k,_⟩:=g
 obtain ⟨c,e⟩:=Prod.mk.inj h
 refine xdE (p:=xdN.pin) (xd4 mxTryz (inv0Ok Tryz.prog _) rfl xoA rfl Tryz.func157 rfl (by kernel_rfl) xm1 ((xqr _ _ _ _ _ (xac (d:=[]) c)).trans ?_))
 exact congrArg some e
def xHp:Env:=EKP5.withM 157 xke
theorem xC6:OrcOk Tryz.prog ITryz xHp:=xBk.withM xqB
def xdH:Env:=xHp.fn 38 1 (lsOf [40]) (lpsOf [])
theorem xqp:OrcOk Tryz.prog (ITryz.at 1) xdH:=xC6.fn
theorem xn3:LoOk Tryz.prog (ITryz.at xdH.pin) xdH (loopAt Tryz.f187 0):=xaD (by kernel_rfl)
def xkg (a i:Int) (b:LA):=decide (0+(i64.wrap (a+i)).toNat<b.length)
def xkk (a:Nat) (b i:Int):=decide (0≤i64.wrap (b+i))&&decide (i64.wrap (b+i)<(↑a:Int))
def xkn (b:Nat) (a i:Int):=decide (0≤i64.wrap (a+i))&&decide (i64.wrap (a+i)<(↑b:Int))
def xed (b i:Int):Nat:=0+(i64.wrap (b+i)).toNat
def xkd (a b i:Int) (c:LA):=c.set (0+(i64.wrap (a+i)).toNat) (AV.list 3 ((c.getD (xed b i) .top).cells.getD 0 .top).toList)
def xhr {T:Type} (d:Nat) (a b n i:Int) (c:LA) (δ:T) (κl:(Int×LA)→T) (κr:(LA)→T):T:=br (decide (i<n)) (br (xkk d b i) (br (decide (xed b i<c.length)&&hasSh1 (Sh.list 3) ((c.getD (xed b i) .top).cells.getD 0 .top)) (br (xkn d a i) (br (xkg a i c&&hasSh1 (Sh.list 3) ((c.getD (0+(i64.wrap (a+i)).toNat) .top).cells.getD 0 .top)) (br (xkn d a i) (br (xkg a i c) (br (xkk d b i) (br (decide (xed b i<(xkd a b i c).length)) (κl (i64.wrap (i+1),(xkd a b i c).set (xed b i) (AV.list 3 ((c.getD (0+(i64.wrap (a+i)).toNat) .top).cells.getD 0 .top).toList))) δ) δ) δ) δ) δ) δ) δ) δ) (κr (c))
def xbR (d:Nat) (a b n:Int):(Int×LA)→Option ((Int×LA)⊕(LA)):=fun (i,c)=>xhr d a b n i c none (fun s=>some (.inl s)) (fun p=>some (.inr p))
def xc5 (d:Nat) (a b n:Int):(Int×LA)→LA×List Box:=fun (i,c)=>([AV.osl 0 0 0 d,AV.int .i64 a,AV.int .i64 b,AV.int .i64 n,AV.int .i64 i],[⟨0,1,40,c,false,true⟩])
def xcp (c:Nat) (a b n:Int):(LA)→LR:=fun p=>(.leaf (.exit 0) [] [⟨0,1,40,p,false,true⟩])
abbrev xq1 (a:LA) (H:List Box):=XR Tryz.prog xdH [0,1,2,3,10] [] [] (loopAt Tryz.f187 0) a H
theorem xri (c:Nat) (a b n:Int) (s:Int×LA):Enc (encR (xc5 c a b n) (xcp c a b n)) (xbR c a b n s) (xq1 (xc5 c a b n s).1 (xc5 c a b n s).2):=by
 obtain ⟨i,d⟩:=s
 refine eV (xhr c a b n i d none (fun s=>some (encR (xc5 c a b n) (xcp c a b n) (.inl s))) (fun p=>some (encR (xc5 c a b n) (xcp c a b n) (.inr p)))) (by kernel_rfl) ?_;unfold xbR xhr;repeat' first|exact eN|exact eS rfl|apply eB
def xkf:Lp:=lpOf [0,1,2,3,10] [] [] (pCons (pOsl 0 0 0) (pCons (pInt .i64) (pCons (pInt .i64) (pCons (pInt .i64) (pCons (pInt .i64) pNil))))) (pCons (pBox 0 1 40 false true pAny) pNil) fun (c,(a,(b,(n,(i,_))))) (d,_)=>((Iter (xbR c a b n) (i,d)).isSome,xcp c a b n ((Iter (xbR c a b n) (i,d)).getD []))
theorem xp2:LoopOk Tryz.prog (ITryz.at xdH.pin) xdH.nt (loopAt Tryz.f187 0) xkf:=xbm fun f g j h=>by
 obtain ⟨c,⟨a,⟨b,⟨n,⟨i,_⟩⟩⟩⟩⟩:=f
 obtain ⟨d,_⟩:=g
 obtain ⟨e,rfl⟩:=Prod.mk.inj h
 exact xa6 mxTryz (inv0Ok Tryz.prog _) rfl xqp xn3 (xc5 c a b n) (xcp c a b n) (fun p=>by simp only [xcp,LR.eval];first|(simp;done)|(repeat' split<;>simp)) (xri c a b n) (s:=(i,d)) (xac e)
def xeI:Env:=xHp.fn 38 1 (lsOf [40]) (lpsOf [(1,xkf)])
theorem xqm:OrcOk Tryz.prog (ITryz.at 1) xeI:=xC6.fn
theorem xo5:LoOk Tryz.prog (ITryz.at xeI.pin) xeI (Tryz.f187.body.getD .skip):=xbe (ls:=[loopAt Tryz.f187 0]) (by kernel_rfl) (lkC xp2 lkN)
def xgr {T:Type} (n:Nat) (a b k:Int) (c:LA) (δ:T) (κ:LA→T):T:=br ((Iter (xbR n a b k) (0,c)).isSome) (κ ((Iter (xbR n a b k) (0,c)).getD [])) δ
def xbo (n:Nat) (a b k:Int) (c:LA):Option (LA):=xgr n a b k c none some
theorem xte (n:Nat) (a b k:Int) (xs:LA):Enc (fun (p:LA)=>(((AV.tuple [],([⟨0,1,40,p,false,true⟩]:List Box))):(AV×List Box))) (xbo n a b k xs) (XFM Tryz.prog xeI Tryz.f187 (Tryz.f187.body.getD .skip) [AV.osl (0:Id) 0 0 n,AV.int .i64 a,AV.int .i64 b,AV.int .i64 k,AV.func (88:FuncId) []] [{ ver:=0,sz:=1,ty:=(40:TypeId),xs:=xs,frz:=false,pm:=true }]):=by
 refine eV (xgr n a b k xs none (fun (p:LA)=>some (((AV.tuple [],([⟨0,1,40,p,false,true⟩]:List Box))):(AV×List Box)))) (by kernel_rfl) ?_;unfold xbo xgr;repeat' first|exact eN|exact eS rfl|apply eB
def xmg:LA→List Box→Option (Bool×AV×List Box):=omOf (sCons (sEq (pOsl 0 0 0)) (sCons (sEq (pInt .i64)) (sCons (sEq (pInt .i64)) (sCons (sEq (pInt .i64)) (sCons (sEq (pFunc (88:FuncId) pNil)) sNil))))) (pCons (pBox 0 1 (40:TypeId) false true pAny) pNil) fun (n,(a,(b,(k,(_,_))))) (c,_)=>((xbo n a b k c).isSome,((AV.tuple [],([⟨0,1,40,((xbo n a b k c).getD []),false,true⟩]:List Box))))
theorem xto:OmOk Tryz.prog ITryz 187 (xmg):=xeQ fun f g j i h=>by
 obtain ⟨n,⟨a,⟨b,⟨k,⟨_,_⟩⟩⟩⟩⟩:=f
 obtain ⟨l,_⟩:=g
 obtain ⟨c,e⟩:=Prod.mk.inj h
 refine xdE (p:=xeI.pin) (xd4 mxTryz (inv0Ok Tryz.prog _) rfl xqm rfl Tryz.func187 rfl (by kernel_rfl) xo5 ((xte _ _ _ _ _ _ (xac (d:=[]) c)).trans ?_))
 exact congrArg some e
def xHk:Env:=xHp.withM 187 xmg
theorem xDi:OrcOk Tryz.prog ITryz xHk:=xC6.withM xto
def xeE:Env:=xHk.fn 58 1 (lsOf [40]) (lpsOf [])
theorem xss:OrcOk Tryz.prog (ITryz.at 1) xeE:=xDi.fn
theorem xpg:LoOk Tryz.prog (ITryz.at xeE.pin) xeE (loopAt Tryz.f176 0):=xaD (by kernel_rfl)
def xiD {T:Type} (b:Nat) (m i j:Int) (a:LA) (δ:T) (κl:(Int×Int×LA)→T) (κr:(Int×LA)→T):T:=br (i != j) (br (decide (i>j)) (br ((xbo b (i64.wrap (m - i)) m j a).isSome) (κl (i64.wrap (i - j),j,(xbo b (i64.wrap (m - i)) m j a).getD [])) δ) (br ((xbo b (i64.wrap (m - i)) (i64.wrap (i64.wrap (m+j) - i)) i a).isSome) (κl (i,i64.wrap (j - i),(xbo b (i64.wrap (m - i)) (i64.wrap (i64.wrap (m+j) - i)) i a).getD [])) δ)) (κr (i,a))
def xcZ (b:Nat) (m:Int):(Int×Int×LA)→Option ((Int×Int×LA)⊕(Int×LA)):=fun (i,j,a)=>xiD b m i j a none (fun s=>some (.inl s)) (fun p=>some (.inr p))
def xeb (b:Nat) (m:Int):(Int×Int×LA)→LA×List Box:=fun (i,j,a)=>([AV.osl 0 0 0 b,AV.int .i64 m,AV.func 88 [],AV.int .i64 i,AV.int .i64 j],[⟨0,1,40,a,false,true⟩])
def xdg (a:Nat) (m:Int):(Int×LA)→LR:=fun p=>(.leaf (.exit 0) [AV.osl 0 0 0 a,AV.int .i64 m,AV.func 88 [],AV.int .i64 p.1] [⟨0,1,40,p.2,false,true⟩])
abbrev xtA (a:LA) (H:List Box):=XR Tryz.prog xeE [0,2,4,10,11] [0,2,4,10] [] (loopAt Tryz.f176 0) a H
theorem xtp (a:Nat) (m:Int) (s:Int×Int×LA):Enc (encR (xeb a m) (xdg a m)) (xcZ a m s) (xtA (xeb a m s).1 (xeb a m s).2):=by
 obtain ⟨i,j,b⟩:=s
 refine eV (xiD a m i j b none (fun s=>some (encR (xeb a m) (xdg a m) (.inl s))) (fun p=>some (encR (xeb a m) (xdg a m) (.inr p)))) (by kernel_rfl) ?_;unfold xcZ xiD;repeat' first|exact eN|exact eS rfl|apply eB
def xlK:Lp:=lpOf [0,2,4,10,11] [0,2,4,10] [] (pCons (pOsl 0 0 0) (pCons (pInt .i64) (pCons (pFunc 88 pNil) (pCons (pInt .i64) (pCons (pInt .i64) pNil))))) (pCons (pBox 0 1 40 false true pAny) pNil) fun (a,(m,(_,(i,(j,_))))) (b,_)=>((Iter (xcZ a m) (i,j,b)).isSome,xdg a m ((Iter (xcZ a m) (i,j,b)).getD (0,[])))
theorem xrI:LoopOk Tryz.prog (ITryz.at xeE.pin) xeE.nt (loopAt Tryz.f176 0) xlK:=xbm fun d e g f=>by
 obtain ⟨a,⟨m,⟨_,⟨i,⟨j,_⟩⟩⟩⟩⟩:=d
 obtain ⟨b,_⟩:=e
 obtain ⟨c,rfl⟩:=Prod.mk.inj f
 exact xa6 mxTryz (inv0Ok Tryz.prog _) rfl xss xpg (xeb a m) (xdg a m) (fun p=>by simp only [xdg,LR.eval];first|(simp;done)|(repeat' split<;>simp)) (xtp a m) (s:=(i,j,b)) (xac c)
def xfk:Env:=xHk.fn 58 1 (lsOf [40]) (lpsOf [(2,xlK)])
theorem xso:OrcOk Tryz.prog (ITryz.at 1) xfk:=xDi.fn
theorem xqD:LoOk Tryz.prog (ITryz.at xfk.pin) xfk (Tryz.f176.body.getD .skip):=xbe (ls:=[loopAt Tryz.f176 0]) (by kernel_rfl) (lkC xrI lkN)
def xjA (n:Nat) (a m b:Int) (c:LA):=Iter (xcZ n m) (i64.wrap (m - a),i64.wrap (b - m),c)
def xjG (n:Nat) (a m b:Int) (c:LA):=(xjA n a m b c).getD (0,[])
def xjp (n:Nat) (a m b:Int) (c:LA):=(xjG n a m b c).fst
def xjC (n:Nat) (a m b:Int) (c:LA):=xbo n (i64.wrap (m - xjp n a m b c)) m (xjp n a m b c) (xjG n a m b c).snd
def xhs {T:Type} (n:Nat) (a m b:Int) (c:LA) (δ:T) (κ:LA→T):T:=br ((xjA n a m b c).isSome) (br ((xjC n a m b c).isSome) (κ ((xjC n a m b c).getD [])) δ) δ
def xbQ (n:Nat) (a m b:Int) (c:LA):Option (LA):=xhs n a m b c none some
theorem xu8 (n:Nat) (a m b:Int) (xs:LA):Enc (fun (p:LA)=>(((AV.tuple [],([⟨0,1,40,p,false,true⟩]:List Box))):(AV×List Box))) (xbQ n a m b xs) (XFM Tryz.prog xfk Tryz.f176 (Tryz.f176.body.getD .skip) [AV.osl (0:Id) 0 0 n,AV.int .i64 a,AV.int .i64 m,AV.int .i64 b,AV.func (88:FuncId) []] [{ ver:=0,sz:=1,ty:=(40:TypeId),xs:=xs,frz:=false,pm:=true }]):=by
 refine eV (xhs n a m b xs none (fun (p:LA)=>some (((AV.tuple [],([⟨0,1,40,p,false,true⟩]:List Box))):(AV×List Box)))) (by kernel_rfl) ?_;unfold xbQ xhs;repeat' first|exact eN|exact eS rfl|apply eB
def xnr:LA→List Box→Option (Bool×AV×List Box):=omOf (sCons (sEq (pOsl 0 0 0)) (sCons (sEq (pInt .i64)) (sCons (sEq (pInt .i64)) (sCons (sEq (pInt .i64)) (sCons (sEq (pFunc (88:FuncId) pNil)) sNil))))) (pCons (pBox 0 1 (40:TypeId) false true pAny) pNil) fun (n,(a,(m,(b,(_,_))))) (c,_)=>((xbQ n a m b c).isSome,((AV.tuple [],([⟨0,1,40,((xbQ n a m b c).getD []),false,true⟩]:List Box))))
theorem xu1:OmOk Tryz.prog ITryz 176 (xnr):=xeQ fun f g j i h=>by
 obtain ⟨n,⟨a,⟨m,⟨b,⟨_,_⟩⟩⟩⟩⟩:=f
 obtain ⟨k,_⟩:=g
 obtain ⟨c,e⟩:=Prod.mk.inj h
 refine xdE (p:=xfk.pin) (xd4 mxTryz (inv0Ok Tryz.prog _) rfl xso rfl Tryz.func176 rfl (by kernel_rfl) xqD ((xu8 _ _ _ _ _ _ (xac (d:=[]) c)).trans ?_))
 exact congrArg some e
def xvY:Env:=xHk.withM 176 xnr
theorem xp6:OrcOk Tryz.prog ITryz xvY:=xDi.withM xu1
def xea:Env:=xvY.fn 220 1 (lsOf [40]) (lpsOf [])
theorem xrd:OrcOk Tryz.prog (ITryz.at 1) xea:=xp6.fn
theorem xon:LoOk Tryz.prog (ITryz.at xea.pin) xea (loopAt Tryz.f158 0):=xaD (by kernel_rfl)
def xb8 (i j:Int):=i64.wrap ((u64.wrap (i64.wrap (i+j))).fdiv 2)
def xk6 (a i j:Int) (b:LA):=xda ((b.getD (0+(xb8 i j).toNat) .top).cells.getD 0 .top).toList ((b.getD (0+a.toNat) .top).cells.getD 0 .top).toList
def xh0 {T:Type} (c:Nat) (a i j:Int) (b:LA) (δ:T) (κl:(Int×Int×LA)→T) (κr:(Int×LA)→T):T:=br (decide (i<j)) (br (decide (0≤xb8 i j)&&decide (xb8 i j<(↑c:Int))) (br (decide (0+(xb8 i j).toNat<b.length)&&hasSh1 (Sh.list 3) ((b.getD (0+(xb8 i j).toNat) .top).cells.getD 0 .top)) (br (decide (0≤a)&&decide (a<(↑c:Int))) (br (decide (0+a.toNat<b.length)&&hasSh1 (Sh.list 3) ((b.getD (0+a.toNat) .top).cells.getD 0 .top)) (br ((xk6 a i j b).isSome) (br (decide ((xk6 a i j b).getD 0<0)) (κl (i64.wrap (xb8 i j+1),j,b)) (κl (i,xb8 i j,b))) δ) δ) δ) δ) δ) (κr (i,b))
def xbF (c:Nat) (a:Int):(Int×Int×LA)→Option ((Int×Int×LA)⊕(Int×LA)):=fun (i,j,b)=>xh0 c a i j b none (fun s=>some (.inl s)) (fun p=>some (.inr p))
def xde (c:Nat) (a:Int):(Int×Int×LA)→LA×List Box:=fun (i,j,b)=>([AV.osl 0 0 0 c,AV.int .i64 a,AV.func 88 [],AV.int .i64 i,AV.int .i64 j],[⟨0,1,40,b,false,true⟩])
def xcJ (b:Nat) (a:Int):(Int×LA)→LR:=fun p=>(.leaf (.exit 0) [AV.osl 0 0 0 b,AV.int .i64 a,AV.int .i64 p.1] [⟨0,1,40,p.2,false,true⟩])
abbrev xrV (a:LA) (H:List Box):=XR Tryz.prog xea [0,1,4,10,11] [0,1,10] [] (loopAt Tryz.f158 0) a H
theorem xsa (b:Nat) (a:Int) (s:Int×Int×LA):Enc (encR (xde b a) (xcJ b a)) (xbF b a s) (xrV (xde b a s).1 (xde b a s).2):=by
 obtain ⟨i,j,c⟩:=s
 refine eV (xh0 b a i j c none (fun s=>some (encR (xde b a) (xcJ b a) (.inl s))) (fun p=>some (encR (xde b a) (xcJ b a) (.inr p)))) (by kernel_rfl) ?_;unfold xbF xh0;repeat' first|exact eN|exact eS rfl|apply eB
def xca:Lp:=lpOf [0,1,4,10,11] [0,1,10] [] (pCons (pOsl 0 0 0) (pCons (pInt .i64) (pCons (pFunc 88 pNil) (pCons (pInt .i64) (pCons (pInt .i64) pNil))))) (pCons (pBox 0 1 40 false true pAny) pNil) fun (b,(a,(_,(i,(j,_))))) (c,_)=>((Iter (xbF b a) (i,j,c)).isSome,xcJ b a ((Iter (xbF b a) (i,j,c)).getD (0,[])))
theorem xqG:LoopOk Tryz.prog (ITryz.at xea.pin) xea.nt (loopAt Tryz.f158 0) xca:=xbm fun e f h g=>by
 obtain ⟨b,⟨a,⟨_,⟨i,⟨j,_⟩⟩⟩⟩⟩:=e
 obtain ⟨c,_⟩:=f
 obtain ⟨d,rfl⟩:=Prod.mk.inj g
 exact xa6 mxTryz (inv0Ok Tryz.prog _) rfl xrd xon (xde b a) (xcJ b a) (fun p=>by simp only [xcJ,LR.eval];first|(simp;done)|(repeat' split<;>simp)) (xsa b a) (s:=(i,j,c)) (xac d)
def xd8:Env:=xvY.fn 220 1 (lsOf [40]) (lpsOf [(3,xca)])
theorem xrp:OrcOk Tryz.prog (ITryz.at 1) xd8:=xp6.fn
theorem xoB:LoOk Tryz.prog (ITryz.at xd8.pin) xd8 (loopAt Tryz.f158 1):=xaD (by kernel_rfl)
def xle (a:Nat) (k:Int):=decide (0≤i64.wrap (k+1))&&decide (i64.wrap (k+1)<(↑a:Int))
def xc4 (k:Int):Nat:=0+(i64.wrap (k+1)).toNat
def xk5 (k:Int) (a:LA):=decide (0+k.toNat<a.length)
def xhW {T:Type} (b:Nat) (i k:Int) (a:LA) (δ:T) (κl:(Int×LA)→T) (κr:(LA)→T):T:=br (decide (k<i64.wrap (i - 1))) (br (xle b k) (br (decide (xc4 k<a.length)&&hasSh1 (Sh.list 3) ((a.getD (xc4 k) .top).cells.getD 0 .top)) (br (decide (0≤k)&&decide (k<(↑b:Int))) (br (xk5 k a&&hasSh1 (Sh.list 3) ((a.getD (0+k.toNat) .top).cells.getD 0 .top)) (br (decide (0≤k)&&decide (k<(↑b:Int))) (br (xk5 k a) (br (xle b k) (br (decide (xc4 k<(a.set (0+k.toNat) (AV.list 3 ((a.getD (xc4 k) .top).cells.getD 0 .top).toList)).length)) (κl (i64.wrap (k+1),(a.set (0+k.toNat) (AV.list 3 ((a.getD (xc4 k) .top).cells.getD 0 .top).toList)).set (xc4 k) (AV.list 3 ((a.getD (0+k.toNat) .top).cells.getD 0 .top).toList))) δ) δ) δ) δ) δ) δ) δ) δ) (κr (a))
def xcC (b:Nat) (i:Int):(Int×LA)→Option ((Int×LA)⊕(LA)):=fun (k,a)=>xhW b i k a none (fun s=>some (.inl s)) (fun p=>some (.inr p))
def xdp (b:Nat) (i:Int):(Int×LA)→LA×List Box:=fun (k,a)=>([AV.osl 0 0 0 b,AV.int .i64 i,AV.int .i64 k],[⟨0,1,40,a,false,true⟩])
def xcL (a:Nat) (i:Int):(LA)→LR:=fun p=>(.leaf (.exit 2) [] [⟨0,1,40,p,false,true⟩])
abbrev xrM (a:LA) (H:List Box):=XR Tryz.prog xd8 [0,10,13] [] [] (loopAt Tryz.f158 1) a H
theorem xr7 (a:Nat) (i:Int) (s:Int×LA):Enc (encR (xdp a i) (xcL a i)) (xcC a i s) (xrM (xdp a i s).1 (xdp a i s).2):=by
 obtain ⟨k,b⟩:=s
 refine eV (xhW a i k b none (fun s=>some (encR (xdp a i) (xcL a i) (.inl s))) (fun p=>some (encR (xdp a i) (xcL a i) (.inr p)))) (by kernel_rfl) ?_;unfold xcC xhW;repeat' first|exact eN|exact eS rfl|apply eB
def xcY:Lp:=lpOf [0,10,13] [] [] (pCons (pOsl 0 0 0) (pCons (pInt .i64) (pCons (pInt .i64) pNil))) (pCons (pBox 0 1 40 false true pAny) pNil) fun (a,(i,(k,_))) (b,_)=>((Iter (xcC a i) (k,b)).isSome,xcL a i ((Iter (xcC a i) (k,b)).getD []))
theorem xqF:LoopOk Tryz.prog (ITryz.at xd8.pin) xd8.nt (loopAt Tryz.f158 1) xcY:=xbm fun d e g f=>by
 obtain ⟨a,⟨i,⟨k,_⟩⟩⟩:=d
 obtain ⟨b,_⟩:=e
 obtain ⟨c,rfl⟩:=Prod.mk.inj f
 exact xa6 mxTryz (inv0Ok Tryz.prog _) rfl xrp xoB (xdp a i) (xcL a i) (fun p=>by simp only [xcL,LR.eval];first|(simp;done)|(repeat' split<;>simp)) (xr7 a i) (s:=(k,b)) (xac c)
def xd9:Env:=xvY.fn 220 1 (lsOf [40]) (lpsOf [(3,xca),(9,xcY)])
theorem xrk:OrcOk Tryz.prog (ITryz.at 1) xd9:=xp6.fn
theorem xos:LoOk Tryz.prog (ITryz.at xd9.pin) xd9 (loopAt Tryz.f158 2):=xaD (by kernel_rfl)
def xcd (i j:Int):=i64.wrap ((u64.wrap (i64.wrap (i+j))).fdiv 2)
def xkP (m i j:Int) (a:LA):=xda ((a.getD (0+m.toNat) .top).cells.getD 0 .top).toList ((a.getD (0+(xcd i j).toNat) .top).cells.getD 0 .top).toList
def xhZ {T:Type} (b:Nat) (m i j:Int) (a:LA) (δ:T) (κl:(Int×Int×LA)→T) (κr:(Int×LA)→T):T:=br (decide (i<j)) (br (decide (0≤m)&&decide (m<(↑b:Int))) (br (decide (0+m.toNat<a.length)&&hasSh1 (Sh.list 3) ((a.getD (0+m.toNat) .top).cells.getD 0 .top)) (br (decide (0≤xcd i j)&&decide (xcd i j<(↑b:Int))) (br (decide (0+(xcd i j).toNat<a.length)&&hasSh1 (Sh.list 3) ((a.getD (0+(xcd i j).toNat) .top).cells.getD 0 .top)) (br ((xkP m i j a).isSome) (br (!decide ((xkP m i j a).getD 0<0)) (κl (i64.wrap (xcd i j+1),j,a)) (κl (i,xcd i j,a))) δ) δ) δ) δ) δ) (κr (i,a))
def xbE (b:Nat) (m:Int):(Int×Int×LA)→Option ((Int×Int×LA)⊕(Int×LA)):=fun (i,j,a)=>xhZ b m i j a none (fun s=>some (.inl s)) (fun p=>some (.inr p))
def xdr (b:Nat) (m:Int):(Int×Int×LA)→LA×List Box:=fun (i,j,a)=>([AV.osl 0 0 0 b,AV.int .i64 m,AV.func 88 [],AV.int .i64 i,AV.int .i64 j],[⟨0,1,40,a,false,true⟩])
def xcH (a:Nat) (m:Int):(Int×LA)→LR:=fun p=>(.leaf (.exit 4) [AV.osl 0 0 0 a,AV.int .i64 m,AV.int .i64 p.1] [⟨0,1,40,p.2,false,true⟩])
abbrev xrU (a:LA) (H:List Box):=XR Tryz.prog xd9 [0,2,4,14,15] [0,2,14] [] (loopAt Tryz.f158 2) a H
theorem xr0 (a:Nat) (m:Int) (s:Int×Int×LA):Enc (encR (xdr a m) (xcH a m)) (xbE a m s) (xrU (xdr a m s).1 (xdr a m s).2):=by
 obtain ⟨i,j,b⟩:=s
 refine eV (xhZ a m i j b none (fun s=>some (encR (xdr a m) (xcH a m) (.inl s))) (fun p=>some (encR (xdr a m) (xcH a m) (.inr p)))) (by kernel_rfl) ?_;unfold xbE xhZ;repeat' first|exact eN|exact eS rfl|apply eB
def xem:Lp:=lpOf [0,2,4,14,15] [0,2,14] [] (pCons (pOsl 0 0 0) (pCons (pInt .i64) (pCons (pFunc 88 pNil) (pCons (pInt .i64) (pCons (pInt .i64) pNil))))) (pCons (pBox 0 1 40 false true pAny) pNil) fun (a,(m,(_,(i,(j,_))))) (b,_)=>((Iter (xbE a m) (i,j,b)).isSome,xcH a m ((Iter (xbE a m) (i,j,b)).getD (0,[])))
theorem xqA:LoopOk Tryz.prog (ITryz.at xd9.pin) xd9.nt (loopAt Tryz.f158 2) xem:=xbm fun d e g f=>by
 obtain ⟨a,⟨m,⟨_,⟨i,⟨j,_⟩⟩⟩⟩⟩:=d
 obtain ⟨b,_⟩:=e
 obtain ⟨c,rfl⟩:=Prod.mk.inj f
 exact xa6 mxTryz (inv0Ok Tryz.prog _) rfl xrk xos (xdr a m) (xcH a m) (fun p=>by simp only [xcH,LR.eval];first|(simp;done)|(repeat' split<;>simp)) (xr0 a m) (s:=(i,j,b)) (xac c)
def xdW:Env:=xvY.fn 220 1 (lsOf [40]) (lpsOf [(3,xca),(9,xcY),(15,xem)])
theorem xqT:OrcOk Tryz.prog (ITryz.at 1) xdW:=xp6.fn
theorem xoa:LoOk Tryz.prog (ITryz.at xdW.pin) xdW (loopAt Tryz.f158 3):=xaD (by kernel_rfl)
def xkZ (a:Nat) (k:Int):=decide (0≤i64.wrap (k - 1))&&decide (i64.wrap (k - 1)<(↑a:Int))
def xc8 (k:Int):Nat:=0+(i64.wrap (k - 1)).toNat
def xkU (k:Int) (a:LA):=decide (0+k.toNat<a.length)
def xhX {T:Type} (b:Nat) (i k:Int) (a:LA) (δ:T) (κl:(Int×LA)→T) (κr:(LA)→T):T:=br (decide (k>i)) (br (xkZ b k) (br (decide (xc8 k<a.length)&&hasSh1 (Sh.list 3) ((a.getD (xc8 k) .top).cells.getD 0 .top)) (br (decide (0≤k)&&decide (k<(↑b:Int))) (br (xkU k a&&hasSh1 (Sh.list 3) ((a.getD (0+k.toNat) .top).cells.getD 0 .top)) (br (decide (0≤k)&&decide (k<(↑b:Int))) (br (xkU k a) (br (xkZ b k) (br (decide (xc8 k<(a.set (0+k.toNat) (AV.list 3 ((a.getD (xc8 k) .top).cells.getD 0 .top).toList)).length)) (κl (i64.wrap (k - 1),(a.set (0+k.toNat) (AV.list 3 ((a.getD (xc8 k) .top).cells.getD 0 .top).toList)).set (xc8 k) (AV.list 3 ((a.getD (0+k.toNat) .top).cells.getD 0 .top).toList))) δ) δ) δ) δ) δ) δ) δ) δ) (κr (a))
def xct (b:Nat) (i:Int):(Int×LA)→Option ((Int×LA)⊕(LA)):=fun (k,a)=>xhX b i k a none (fun s=>some (.inl s)) (fun p=>some (.inr p))
def xdd (b:Nat) (i:Int):(Int×LA)→LA×List Box:=fun (k,a)=>([AV.osl 0 0 0 b,AV.int .i64 i,AV.int .i64 k],[⟨0,1,40,a,false,true⟩])
def xcM (a:Nat) (i:Int):(LA)→LR:=fun p=>(.leaf (.exit 6) [] [⟨0,1,40,p,false,true⟩])
abbrev xrQ (a:LA) (H:List Box):=XR Tryz.prog xdW [0,14,17] [] [] (loopAt Tryz.f158 3) a H
theorem xrS (a:Nat) (i:Int) (s:Int×LA):Enc (encR (xdd a i) (xcM a i)) (xct a i s) (xrQ (xdd a i s).1 (xdd a i s).2):=by
 obtain ⟨k,b⟩:=s
 refine eV (xhX a i k b none (fun s=>some (encR (xdd a i) (xcM a i) (.inl s))) (fun p=>some (encR (xdd a i) (xcM a i) (.inr p)))) (by kernel_rfl) ?_;unfold xct xhX;repeat' first|exact eN|exact eS rfl|apply eB
def xfl:Lp:=lpOf [0,14,17] [] [] (pCons (pOsl 0 0 0) (pCons (pInt .i64) (pCons (pInt .i64) pNil))) (pCons (pBox 0 1 40 false true pAny) pNil) fun (a,(i,(k,_))) (b,_)=>((Iter (xct a i) (k,b)).isSome,xcM a i ((Iter (xct a i) (k,b)).getD []))
theorem xqw:LoopOk Tryz.prog (ITryz.at xdW.pin) xdW.nt (loopAt Tryz.f158 3) xfl:=xbm fun d e g f=>by
 obtain ⟨a,⟨i,⟨k,_⟩⟩⟩:=d
 obtain ⟨b,_⟩:=e
 obtain ⟨c,rfl⟩:=Prod.mk.inj f
 exact xa6 mxTryz (inv0Ok Tryz.prog _) rfl xqT xoa (xdd a i) (xcM a i) (fun p=>by simp only [xcM,LR.eval];first|(simp;done)|(repeat' split<;>simp)) (xrS a i) (s:=(k,b)) (xac c)
def xd0:Env:=xvY.fn 220 1 (lsOf [40]) (lpsOf [(3,xca),(9,xcY),(15,xem),(21,xfl)])
theorem xre:OrcOk Tryz.prog (ITryz.at 1) xd0:=xp6.fn
theorem xn8:LoOk Tryz.prog (ITryz.at xd0.pin) xd0 (loopAt Tryz.f158 4):=xaD (by kernel_rfl)
def xa9 (a r:Int):=i64.wrap ((u64.wrap (i64.wrap (a+r))).fdiv 2)
def xk7 (c b r:Int) (a:LA):=xda ((a.getD (0+(i64.wrap (c - xa9 b r)).toNat) .top).cells.getD 0 .top).toList ((a.getD (0+(xa9 b r).toNat) .top).cells.getD 0 .top).toList
def xhU {T:Type} (e:Nat) (a m b g n f c r:Int) (d:LA) (δ:T) (κl:(Int×Int×LA)→T) (κr:(Int×LA)→T):T:=br (decide (c<r)) (br (decide (0≤i64.wrap (f - xa9 c r))&&decide (i64.wrap (f - xa9 c r)<(↑e:Int))) (br (decide (0+(i64.wrap (f - xa9 c r)).toNat<d.length)&&hasSh1 (Sh.list 3) ((d.getD (0+(i64.wrap (f - xa9 c r)).toNat) .top).cells.getD 0 .top)) (br (decide (0≤xa9 c r)&&decide (xa9 c r<(↑e:Int))) (br (decide (0+(xa9 c r).toNat<d.length)&&hasSh1 (Sh.list 3) ((d.getD (0+(xa9 c r).toNat) .top).cells.getD 0 .top)) (br ((xk7 f c r d).isSome) (br (!decide ((xk7 f c r d).getD 0<0)) (κl (i64.wrap (xa9 c r+1),r,d)) (κl (c,xa9 c r,d))) δ) δ) δ) δ) δ) (κr (c,d))
def xbV (d:Nat) (a m b f n g:Int):(Int×Int×LA)→Option ((Int×Int×LA)⊕(Int×LA)):=fun (e,r,c)=>xhU d a m b f n g e r c none (fun s=>some (.inl s)) (fun p=>some (.inr p))
def xdl (d:Nat) (a m b f n g:Int):(Int×Int×LA)→LA×List Box:=fun (e,r,c)=>([AV.osl 0 0 0 d,AV.int .i64 a,AV.int .i64 m,AV.int .i64 b,AV.func 88 [],AV.int .i64 f,AV.int .i64 n,AV.int .i64 e,AV.int .i64 r,AV.int .i64 g],[⟨0,1,40,c,false,true⟩])
def xcI (c:Nat) (a m b d n e:Int):(Int×LA)→LR:=fun p=>(.leaf (.exit 8) [AV.osl 0 0 0 c,AV.int .i64 a,AV.int .i64 m,AV.int .i64 b,AV.func 88 [],AV.int .i64 d,AV.int .i64 n,AV.int .i64 p.1] [⟨0,1,40,p.2,false,true⟩])
abbrev xrx (a:LA) (H:List Box):=XR Tryz.prog xd0 [0,1,2,3,4,18,19,20,21,22] [0,1,2,3,4,18,19,20] [] (loopAt Tryz.f158 4) a H
theorem xrR (c:Nat) (a m b d n e:Int) (s:Int×Int×LA):Enc (encR (xdl c a m b d n e) (xcI c a m b d n e)) (xbV c a m b d n e s) (xrx (xdl c a m b d n e s).1 (xdl c a m b d n e s).2):=by
 obtain ⟨g,r,f⟩:=s
 refine eV (xhU c a m b d n e g r f none (fun s=>some (encR (xdl c a m b d n e) (xcI c a m b d n e) (.inl s))) (fun p=>some (encR (xdl c a m b d n e) (xcI c a m b d n e) (.inr p)))) (by kernel_rfl) ?_;unfold xbV xhU;repeat' first|exact eN|exact eS rfl|apply eB
def xhh:Lp:=lpOf [0,1,2,3,4,18,19,20,21,22] [0,1,2,3,4,18,19,20] [] (pCons (pOsl 0 0 0) (pCons (pInt .i64) (pCons (pInt .i64) (pCons (pInt .i64) (pCons (pFunc 88 pNil) (pCons (pInt .i64) (pCons (pInt .i64) (pCons (pInt .i64) (pCons (pInt .i64) (pCons (pInt .i64) pNil)))))))))) (pCons (pBox 0 1 40 false true pAny) pNil) fun (c,(a,(m,(b,(_,(f,(n,(e,(r,(g,_)))))))))) (d,_)=>((Iter (xbV c a m b f n g) (e,r,d)).isSome,xcI c a m b f n g ((Iter (xbV c a m b f n g) (e,r,d)).getD (0,[])))
theorem xqi:LoopOk Tryz.prog (ITryz.at xd0.pin) xd0.nt (loopAt Tryz.f158 4) xhh:=xbm fun i j l k=>by
 obtain ⟨c,⟨a,⟨m,⟨b,⟨_,⟨e,⟨n,⟨f,⟨r,⟨g,_⟩⟩⟩⟩⟩⟩⟩⟩⟩⟩:=i
 obtain ⟨d,_⟩:=j
 obtain ⟨h,rfl⟩:=Prod.mk.inj k
 exact xa6 mxTryz (inv0Ok Tryz.prog _) rfl xre xn8 (xdl c a m b e n g) (xcI c a m b e n g) (fun p=>by simp only [xcI,LR.eval];first|(simp;done)|(repeat' split<;>simp)) (xrR c a m b e n g) (s:=(f,r,d)) (xac h)
def xhx (R:Nat→Int→Int→Int→LA→Option (LA)):LA→List Box→Option (Bool×AV×List Box):=omOf (sCons (sEq (pOsl 0 0 0)) (sCons (sEq (pInt .i64)) (sCons (sEq (pInt .i64)) (sCons (sEq (pInt .i64)) (sCons (sEq (pFunc (88:FuncId) pNil)) sNil))))) (pCons (pBox 0 1 (40:TypeId) false true pAny) pNil) fun (n,(a,(m,(b,(_,_))))) (c,_)=>((R n a m b c).isSome,(AV.tuple [],([⟨0,1,40,((R n a m b c).getD []),false,true⟩]:List Box)))
def xbu (R:Nat→Int→Int→Int→LA→Option (LA)):Env:=(xvY.withM 158 (xhx R)).fn 220 1 (lsOf [40]) (lpsOf [(3,xca),(9,xcY),(15,xem),(21,xfl),(33,xhh)])
def xhb (R:Nat→Int→Int→Int→LA→Option (LA)):Prop:=OmOk Tryz.prog ITryz 158 (xhx R)
theorem xrq (R:Nat→Int→Int→Int→LA→Option (LA)) (a:xhb R):OrcOk Tryz.prog (ITryz.at 1) (xbu R):=(xp6.withM a).fn
theorem xpm (R:Nat→Int→Int→Int→LA→Option (LA)):LoOk Tryz.prog (ITryz.at (xbu R).pin) (xbu R) (Tryz.f158.body.getD .skip):=xbe (ls:=[loopAt Tryz.f158 0,loopAt Tryz.f158 1,loopAt Tryz.f158 2,loopAt Tryz.f158 3,loopAt Tryz.f158 4]) (by kernel_rfl) (fun l b lp a=>by
 simp only [List.mem_cons,List.not_mem_nil,or_false] at b
 rcases b with rfl|rfl|rfl|rfl|rfl
 · rw [show (xbu R).lp (codeId (loopAt Tryz.f158 0))=some xca by kernel_rfl] at a
   simp only [Option.some.injEq] at a;subst a;exact xqG
 · rw [show (xbu R).lp (codeId (loopAt Tryz.f158 1))=some xcY by kernel_rfl] at a
   simp only [Option.some.injEq] at a;subst a;exact xqF
 · rw [show (xbu R).lp (codeId (loopAt Tryz.f158 2))=some xem by kernel_rfl] at a
   simp only [Option.some.injEq] at a;subst a;exact xqA
 · rw [show (xbu R).lp (codeId (loopAt Tryz.f158 3))=some xfl by kernel_rfl] at a
   simp only [Option.some.injEq] at a;subst a;exact xqw
 · rw [show (xbu R).lp (codeId (loopAt Tryz.f158 4))=some xhh by kernel_rfl] at a
   simp only [Option.some.injEq] at a;subst a;exact xqi)
def xaa (a b:Int):=i64.wrap ((u64.wrap (i64.wrap (a+b))).fdiv 2)
def xaZ (n:Nat) (a m:Int) (b:LA):=Iter (xct n ((Iter (xbE n m) (a,m,b)).getD (0,[])).fst) (m,((Iter (xbE n m) (a,m,b)).getD (0,[])).snd)
def xaV (n:Nat) (a m b:Int) (c:LA):=Iter (xcC n ((Iter (xbF n a) (m,b,c)).getD (0,[])).fst) (a,((Iter (xbF n a) (m,b,c)).getD (0,[])).snd)
def xa1 (n:Nat) (a m b:Int) (c:LA):=Iter (xbV n a m b (xaa a b) (i64.wrap (xaa a b+m)) (i64.wrap (i64.wrap (xaa a b+m) - 1))) (i64.wrap (i64.wrap (xaa a b+m) - b),xaa a b,c)
def xa2 (n:Nat) (a m b:Int) (c:LA):=Iter (xbV n a m b (xaa a b) (i64.wrap (xaa a b+m)) (i64.wrap (i64.wrap (xaa a b+m) - 1))) (a,m,c)
def xaR (n:Nat) (a m b:Int) (c:LA):=(xa1 n a m b c).getD (0,[])
def xaQ (n:Nat) (a m b:Int) (c:LA):=(xa2 n a m b c).getD (0,[])
def xam (n:Nat) (a m b:Int) (c:LA):=(xaR n a m b c).fst
def xao (n:Nat) (a m b:Int) (c:LA):=(xaQ n a m b c).fst
def xaf (n:Nat) (a m b:Int) (c:LA):=(xaR n a m b c).snd
def xae (n:Nat) (a m b:Int) (c:LA):=(xaQ n a m b c).snd
def xah (n:Nat) (a m b:Int) (c:LA):=i64.wrap (i64.wrap (xaa a b+m) - xam n a m b c)
def xaj (n:Nat) (a m b:Int) (c:LA):=i64.wrap (i64.wrap (xaa a b+m) - xao n a m b c)
def xaH (n:Nat) (a m b:Int) (c:LA):=decide (xam n a m b c<xaa a b)
def xaI (n:Nat) (a m b:Int) (c:LA):=decide (a<xam n a m b c)
def xaJ (n:Nat) (a m b:Int) (c:LA):=decide (xao n a m b c<xaa a b)
def xaG (n:Nat) (a m b:Int) (c:LA):=decide (a<xao n a m b c)
def xaz (n:Nat) (a m b:Int) (c:LA):=decide (xaa a b<xah n a m b c)
def xau (n:Nat) (a m b:Int) (c:LA):=decide (xah n a m b c<b)
def xav (n:Nat) (a m b:Int) (c:LA):=decide (xaa a b<xaj n a m b c)
def xat (n:Nat) (a m b:Int) (c:LA):=decide (xaj n a m b c<b)
def xar (n:Nat) (a m b:Int) (c:LA):=(xbQ n (xam n a m b c) m (xah n a m b c) (xaf n a m b c)).getD []
def xap (n:Nat) (a m b:Int) (c:LA):=(xbQ n (xao n a m b c) m (xaj n a m b c) (xae n a m b c)).getD []
def xaY (R:Nat→Int→Int→Int→LA→Option (LA)) (n:Nat) (a m b:Int) (c:LA):Option (LA):=R n (xaa a b) (xaj n a m b c) b ((R n a (xao n a m b c) (xaa a b) (xap n a m b c)).getD [])
def xaU (R:Nat→Int→Int→Int→LA→Option (LA)) (n:Nat) (a m b:Int) (c:LA):Option (LA):=R n (xaa a b) (xah n a m b c) b ((R n a (xam n a m b c) (xaa a b) (xar n a m b c)).getD [])
def xa4 {T:Type} (R:Nat→Int→Int→Int→LA→Option (LA)) (n:Nat) (a m b:Int) (c:LA) (δ:T) (κ:LA→T):T:=br (i64.wrap (m - a)==1) (br ((Iter (xbF n a) (m,b,c)).isSome) (br ((xaV n a m b c).isSome) (κ ((xaV n a m b c).getD [])) δ) δ) (br (i64.wrap (b - m)==1) (br ((Iter (xbE n m) (a,m,c)).isSome) (br ((xaZ n a m c).isSome) (κ ((xaZ n a m c).getD [])) δ) δ) (br (decide (m>xaa a b)) (br ((xa1 n a m b c).isSome) (br (decide (xam n a m b c<m)) (br (decide (m<xah n a m b c)) (br ((xbQ n (xam n a m b c) m (xah n a m b c) (xaf n a m b c)).isSome) (br (xaI n a m b c) (br (xaH n a m b c) (br ((R n a (xam n a m b c) (xaa a b) (xar n a m b c)).isSome) (br (xaz n a m b c) (br (xau n a m b c) (br ((xaU R n a m b c).isSome) (κ ((xaU R n a m b c).getD [])) δ) (κ ((R n a (xam n a m b c) (xaa a b) (xar n a m b c)).getD []))) (κ ((R n a (xam n a m b c) (xaa a b) (xar n a m b c)).getD []))) δ) (br (xaz n a m b c) (br (xau n a m b c) (br ((R n (xaa a b) (xah n a m b c) b (xar n a m b c)).isSome) (κ ((R n (xaa a b) (xah n a m b c) b (xar n a m b c)).getD [])) δ) (κ (xar n a m b c))) (κ (xar n a m b c)))) (br (xaz n a m b c) (br (xau n a m b c) (br ((R n (xaa a b) (xah n a m b c) b (xar n a m b c)).isSome) (κ ((R n (xaa a b) (xah n a m b c) b (xar n a m b c)).getD [])) δ) (κ (xar n a m b c))) (κ (xar n a m b c)))) δ) (br (xaI n a m b c) (br (xaH n a m b c) (br ((R n a (xam n a m b c) (xaa a b) (xaf n a m b c)).isSome) (br (xaz n a m b c) (br (xau n a m b c) (br ((R n (xaa a b) (xah n a m b c) b ((R n a (xam n a m b c) (xaa a b) (xaf n a m b c)).getD [])).isSome) (κ ((R n (xaa a b) (xah n a m b c) b ((R n a (xam n a m b c) (xaa a b) (xaf n a m b c)).getD [])).getD [])) δ) (κ ((R n a (xam n a m b c) (xaa a b) (xaf n a m b c)).getD []))) (κ ((R n a (xam n a m b c) (xaa a b) (xaf n a m b c)).getD []))) δ) (br (xaz n a m b c) (br (xau n a m b c) (br ((R n (xaa a b) (xah n a m b c) b (xaf n a m b c)).isSome) (κ ((R n (xaa a b) (xah n a m b c) b (xaf n a m b c)).getD [])) δ) (κ (xaf n a m b c))) (κ (xaf n a m b c)))) (br (xaz n a m b c) (br (xau n a m b c) (br ((R n (xaa a b) (xah n a m b c) b (xaf n a m b c)).isSome) (κ ((R n (xaa a b) (xah n a m b c) b (xaf n a m b c)).getD [])) δ) (κ (xaf n a m b c))) (κ (xaf n a m b c))))) (br (xaI n a m b c) (br (xaH n a m b c) (br ((R n a (xam n a m b c) (xaa a b) (xaf n a m b c)).isSome) (br (xaz n a m b c) (br (xau n a m b c) (br ((R n (xaa a b) (xah n a m b c) b ((R n a (xam n a m b c) (xaa a b) (xaf n a m b c)).getD [])).isSome) (κ ((R n (xaa a b) (xah n a m b c) b ((R n a (xam n a m b c) (xaa a b) (xaf n a m b c)).getD [])).getD [])) δ) (κ ((R n a (xam n a m b c) (xaa a b) (xaf n a m b c)).getD []))) (κ ((R n a (xam n a m b c) (xaa a b) (xaf n a m b c)).getD []))) δ) (br (xaz n a m b c) (br (xau n a m b c) (br ((R n (xaa a b) (xah n a m b c) b (xaf n a m b c)).isSome) (κ ((R n (xaa a b) (xah n a m b c) b (xaf n a m b c)).getD [])) δ) (κ (xaf n a m b c))) (κ (xaf n a m b c)))) (br (xaz n a m b c) (br (xau n a m b c) (br ((R n (xaa a b) (xah n a m b c) b (xaf n a m b c)).isSome) (κ ((R n (xaa a b) (xah n a m b c) b (xaf n a m b c)).getD [])) δ) (κ (xaf n a m b c))) (κ (xaf n a m b c))))) δ) (br ((xa2 n a m b c).isSome) (br (decide (xao n a m b c<m)) (br (decide (m<xaj n a m b c)) (br ((xbQ n (xao n a m b c) m (xaj n a m b c) (xae n a m b c)).isSome) (br (xaG n a m b c) (br (xaJ n a m b c) (br ((R n a (xao n a m b c) (xaa a b) (xap n a m b c)).isSome) (br (xav n a m b c) (br (xat n a m b c) (br ((xaY R n a m b c).isSome) (κ ((xaY R n a m b c).getD [])) δ) (κ ((R n a (xao n a m b c) (xaa a b) (xap n a m b c)).getD []))) (κ ((R n a (xao n a m b c) (xaa a b) (xap n a m b c)).getD []))) δ) (br (xav n a m b c) (br (xat n a m b c) (br ((R n (xaa a b) (xaj n a m b c) b (xap n a m b c)).isSome) (κ ((R n (xaa a b) (xaj n a m b c) b (xap n a m b c)).getD [])) δ) (κ (xap n a m b c))) (κ (xap n a m b c)))) (br (xav n a m b c) (br (xat n a m b c) (br ((R n (xaa a b) (xaj n a m b c) b (xap n a m b c)).isSome) (κ ((R n (xaa a b) (xaj n a m b c) b (xap n a m b c)).getD [])) δ) (κ (xap n a m b c))) (κ (xap n a m b c)))) δ) (br (xaG n a m b c) (br (xaJ n a m b c) (br ((R n a (xao n a m b c) (xaa a b) (xae n a m b c)).isSome) (br (xav n a m b c) (br (xat n a m b c) (br ((R n (xaa a b) (xaj n a m b c) b ((R n a (xao n a m b c) (xaa a b) (xae n a m b c)).getD [])).isSome) (κ ((R n (xaa a b) (xaj n a m b c) b ((R n a (xao n a m b c) (xaa a b) (xae n a m b c)).getD [])).getD [])) δ) (κ ((R n a (xao n a m b c) (xaa a b) (xae n a m b c)).getD []))) (κ ((R n a (xao n a m b c) (xaa a b) (xae n a m b c)).getD []))) δ) (br (xav n a m b c) (br (xat n a m b c) (br ((R n (xaa a b) (xaj n a m b c) b (xae n a m b c)).isSome) (κ ((R n (xaa a b) (xaj n a m b c) b (xae n a m b c)).getD [])) δ) (κ (xae n a m b c))) (κ (xae n a m b c)))) (br (xav n a m b c) (br (xat n a m b c) (br ((R n (xaa a b) (xaj n a m b c) b (xae n a m b c)).isSome) (κ ((R n (xaa a b) (xaj n a m b c) b (xae n a m b c)).getD [])) δ) (κ (xae n a m b c))) (κ (xae n a m b c))))) (br (xaG n a m b c) (br (xaJ n a m b c) (br ((R n a (xao n a m b c) (xaa a b) (xae n a m b c)).isSome) (br (xav n a m b c) (br (xat n a m b c) (br ((R n (xaa a b) (xaj n a m b c) b ((R n a (xao n a m b c) (xaa a b) (xae n a m b c)).getD [])).isSome) (κ ((R n (xaa a b) (xaj n a m b c) b ((R n a (xao n a m b c) (xaa a b) (xae n a m b c)).getD [])).getD [])) δ) (κ ((R n a (xao n a m b c) (xaa a b) (xae n a m b c)).getD []))) (κ ((R n a (xao n a m b c) (xaa a b) (xae n a m b c)).getD []))) δ) (br (xav n a m b c) (br (xat n a m b c) (br ((R n (xaa a b) (xaj n a m b c) b (xae n a m b c)).isSome) (κ ((R n (xaa a b) (xaj n a m b c) b (xae n a m b c)).getD [])) δ) (κ (xae n a m b c))) (κ (xae n a m b c)))) (br (xav n a m b c) (br (xat n a m b c) (br ((R n (xaa a b) (xaj n a m b c) b (xae n a m b c)).isSome) (κ ((R n (xaa a b) (xaj n a m b c) b (xae n a m b c)).getD [])) δ) (κ (xae n a m b c))) (κ (xae n a m b c))))) δ)))
def xaM (R:Nat→Int→Int→Int→LA→Option (LA)) (n:Nat) (a m b:Int) (c:LA):Option (LA):=xa4 R n a m b c none some
theorem xtH (R:Nat→Int→Int→Int→LA→Option (LA)) (n:Nat) (a m b:Int) (xs:LA):Enc (fun (p:LA)=>(((AV.tuple [],([⟨0,1,40,p,false,true⟩]:List Box))):(AV×List Box))) (xaM R n a m b xs) (XFM Tryz.prog (xbu R) Tryz.f158 (Tryz.f158.body.getD .skip) [AV.osl (0:Id) 0 0 n,AV.int .i64 a,AV.int .i64 m,AV.int .i64 b,AV.func (88:FuncId) []] [{ ver:=0,sz:=1,ty:=(40:TypeId),xs:=xs,frz:=false,pm:=true }]):=by
 refine eV (xa4 R n a m b xs none (fun (p:LA)=>some (((AV.tuple [],([⟨0,1,40,p,false,true⟩]:List Box))):(AV×List Box)))) (by kernel_rfl) ?_;unfold xaM xa4;repeat' first|exact eN|exact eS rfl|apply eB
def xtO (R:Nat→Int→Int→Int→LA→Option (LA)):LA→List Box→Option (Bool×AV×List Box):=omOf (sCons (sEq (pOsl 0 0 0)) (sCons (sEq (pInt .i64)) (sCons (sEq (pInt .i64)) (sCons (sEq (pInt .i64)) (sCons (sEq (pFunc (88:FuncId) pNil)) sNil))))) (pCons (pBox 0 1 (40:TypeId) false true pAny) pNil) fun (n,(a,(m,(b,(_,_))))) (c,_)=>((xaM R n a m b c).isSome,((AV.tuple [],([⟨0,1,40,((xaM R n a m b c).getD []),false,true⟩]:List Box))))
theorem xtS (R:Nat→Int→Int→Int→LA→Option (LA)) (f:xhb R):OmOk Tryz.prog ITryz 158 (xtO R):=xeQ fun g h k j i=>by
 obtain ⟨n,⟨a,⟨m,⟨b,⟨_,_⟩⟩⟩⟩⟩:=g
 obtain ⟨l,_⟩:=h
 obtain ⟨c,e⟩:=Prod.mk.inj i
 refine xdE (p:=(xbu R).pin) (xd4 mxTryz (inv0Ok Tryz.prog _) rfl (xrq R f) rfl Tryz.func158 rfl (by kernel_rfl) (xpm R) ((xtH R _ _ _ _ _ _ (xac (d:=[]) c)).trans ?_))
 exact congrArg some e
def xbh:Nat→Nat→Int→Int→Int→LA→Option (LA)
 | 0=>fun _ _ _ _ _=>none
 | fu_+1=>fun n a m b c=>xaM (xbh fu_) n a m b c
theorem xlA:∀ n,xhb (xbh n)
 | 0=>xeQ fun _ _ _ _ h=>absurd (Prod.mk.inj h).1 Bool.false_ne_true
 | fu_+1=>fun a H r b h=>xtS (xbh fu_) (xlA fu_) a H r b h
def xBr:Env:=xvY.withM 158 (xhx (xbh 1000))
theorem xu0:OrcOk Tryz.prog ITryz xBr:=xp6.withM (xlA _)
def xeC:Env:=xBr.fn 63 1 (lsOf [40]) (lpsOf [])
theorem xsB:OrcOk Tryz.prog (ITryz.at 1) xeC:=xu0.fn
theorem xph:LoOk Tryz.prog (ITryz.at xeC.pin) xeC (loopAt Tryz.f137 0):=xaD (by kernel_rfl)
def xiB {T:Type} (d:Nat) (n e a b:Int) (c:LA) (δ:T) (κl:(Int×Int×LA)→T) (κr:(Int×LA)→T):T:=br (decide (b≤n)) (br ((xbs d a b c).isSome) (κl (b,i64.wrap (b+e),(xbs d a b c).getD [])) δ) (κr (a,c))
def xbM (e:Nat) (n c:Int):(Int×Int×LA)→Option ((Int×Int×LA)⊕(Int×LA)):=fun (a,b,d)=>xiB e n c a b d none (fun s=>some (.inl s)) (fun p=>some (.inr p))
def xdT (e:Nat) (n c:Int):(Int×Int×LA)→LA×List Box:=fun (a,b,d)=>([AV.osl 0 0 0 e,AV.int .i64 n,AV.func 88 [],AV.int .i64 c,AV.int .i64 a,AV.int .i64 b],[⟨0,1,40,d,false,true⟩])
def xdi (b:Nat) (n a:Int):(Int×LA)→LR:=fun p=>(.leaf (.exit 0) [AV.osl 0 0 0 b,AV.int .i64 n,AV.func 88 [],AV.int .i64 a,AV.int .i64 p.1] [⟨0,1,40,p.2,false,true⟩])
abbrev xsY (a:LA) (H:List Box):=XR Tryz.prog xeC [0,1,2,6,7,8] [0,1,2,6,7] [] (loopAt Tryz.f137 0) a H
theorem xtu (d:Nat) (n c:Int) (s:Int×Int×LA):Enc (encR (xdT d n c) (xdi d n c)) (xbM d n c s) (xsY (xdT d n c s).1 (xdT d n c s).2):=by
 obtain ⟨a,b,e⟩:=s
 refine eV (xiB d n c a b e none (fun s=>some (encR (xdT d n c) (xdi d n c) (.inl s))) (fun p=>some (encR (xdT d n c) (xdi d n c) (.inr p)))) (by kernel_rfl) ?_;unfold xbM xiB;repeat' first|exact eN|exact eS rfl|apply eB
def xf5:Lp:=lpOf [0,1,2,6,7,8] [0,1,2,6,7] [] (pCons (pOsl 0 0 0) (pCons (pInt .i64) (pCons (pFunc 88 pNil) (pCons (pInt .i64) (pCons (pInt .i64) (pCons (pInt .i64) pNil)))))) (pCons (pBox 0 1 40 false true pAny) pNil) fun (d,(n,(_,(c,(a,(b,_)))))) (e,_)=>((Iter (xbM d n c) (a,b,e)).isSome,xdi d n c ((Iter (xbM d n c) (a,b,e)).getD (0,[])))
theorem xrT:LoopOk Tryz.prog (ITryz.at xeC.pin) xeC.nt (loopAt Tryz.f137 0) xf5:=xbm fun g h j i=>by
 obtain ⟨d,⟨n,⟨_,⟨c,⟨a,⟨b,_⟩⟩⟩⟩⟩⟩:=g
 obtain ⟨e,_⟩:=h
 obtain ⟨f,rfl⟩:=Prod.mk.inj i
 exact xa6 mxTryz (inv0Ok Tryz.prog _) rfl xsB xph (xdT d n c) (xdi d n c) (fun p=>by simp only [xdi,LR.eval];first|(simp;done)|(repeat' split<;>simp)) (xtu d n c) (s:=(a,b,e)) (xac f)
def xeD:Env:=xBr.fn 63 1 (lsOf [40]) (lpsOf [(2,xf5)])
theorem xsA:OrcOk Tryz.prog (ITryz.at 1) xeD:=xu0.fn
theorem xpc:LoOk Tryz.prog (ITryz.at xeD.pin) xeD (loopAt Tryz.f137 2):=xaD (by kernel_rfl)
def xiL {T:Type} (e:Nat) (n c a b:Int) (d:LA) (δ:T) (κl:(Int×Int×LA)→T) (κr:(Int×LA)→T):T:=br (decide (b≤n)) (br ((xbh 1000 e a (i64.wrap (a+c)) b d).isSome) (κl (b,i64.wrap (b+i64.wrap (2*c)),(xbh 1000 e a (i64.wrap (a+c)) b d).getD [])) δ) (κr (a,d))
def xcf (e:Nat) (n c:Int):(Int×Int×LA)→Option ((Int×Int×LA)⊕(Int×LA)):=fun (a,b,d)=>xiL e n c a b d none (fun s=>some (.inl s)) (fun p=>some (.inr p))
def xdY (e:Nat) (n c:Int):(Int×Int×LA)→LA×List Box:=fun (a,b,d)=>([AV.osl 0 0 0 e,AV.int .i64 n,AV.func 88 [],AV.int .i64 c,AV.int .i64 a,AV.int .i64 b],[⟨0,1,40,d,false,true⟩])
def xdq (b:Nat) (n a:Int):(Int×LA)→LR:=fun p=>(.leaf (.exit 4) [AV.osl 0 0 0 b,AV.int .i64 n,AV.func 88 [],AV.int .i64 a,AV.int .i64 p.1] [⟨0,1,40,p.2,false,true⟩])
abbrev xtw (a:LA) (H:List Box):=XR Tryz.prog xeD [0,1,2,6,7,8] [0,1,2,6,7] [] (loopAt Tryz.f137 2) a H
theorem xtj (d:Nat) (n c:Int) (s:Int×Int×LA):Enc (encR (xdY d n c) (xdq d n c)) (xcf d n c s) (xtw (xdY d n c s).1 (xdY d n c s).2):=by
 obtain ⟨a,b,e⟩:=s
 refine eV (xiL d n c a b e none (fun s=>some (encR (xdY d n c) (xdq d n c) (.inl s))) (fun p=>some (encR (xdY d n c) (xdq d n c) (.inr p)))) (by kernel_rfl) ?_;unfold xcf xiL;repeat' first|exact eN|exact eS rfl|apply eB
def xia:Lp:=lpOf [0,1,2,6,7,8] [0,1,2,6,7] [] (pCons (pOsl 0 0 0) (pCons (pInt .i64) (pCons (pFunc 88 pNil) (pCons (pInt .i64) (pCons (pInt .i64) (pCons (pInt .i64) pNil)))))) (pCons (pBox 0 1 40 false true pAny) pNil) fun (d,(n,(_,(c,(a,(b,_)))))) (e,_)=>((Iter (xcf d n c) (a,b,e)).isSome,xdq d n c ((Iter (xcf d n c) (a,b,e)).getD (0,[])))
theorem xlD:LoopOk Tryz.prog (ITryz.at xeD.pin) xeD.nt (loopAt Tryz.f137 2) xia:=xbm fun g h j i=>by
 obtain ⟨d,⟨n,⟨_,⟨c,⟨a,⟨b,_⟩⟩⟩⟩⟩⟩:=g
 obtain ⟨e,_⟩:=h
 obtain ⟨f,rfl⟩:=Prod.mk.inj i
 exact xa6 mxTryz (inv0Ok Tryz.prog _) rfl xsA xpc (xdY d n c) (xdq d n c) (fun p=>by simp only [xdq,LR.eval];first|(simp;done)|(repeat' split<;>simp)) (xtj d n c) (s:=(a,b,e)) (xac f)
def xeB:Env:=xBr.fn 63 1 (lsOf [40]) (lpsOf [(2,xf5),(9,xia)])
theorem xsy:OrcOk Tryz.prog (ITryz.at 1) xeB:=xu0.fn
theorem xpi:LoOk Tryz.prog (ITryz.at xeB.pin) xeB (loopAt Tryz.f137 1):=xbe (ls:=[loopAt Tryz.f137 2]) (by kernel_rfl) (lkC xlD lkN)
def xfW (c:Nat) (n a:Int) (b:LA):=Iter (xcf c n a) (0,i64.wrap (2*a),b)
def xfx (c:Nat) (n a:Int) (b:LA):=(xfW c n a b).getD (0,[])
def xf9 (c:Nat) (n a:Int) (b:LA):=(xfx c n a b).snd
def xf2 (c:Nat) (n a:Int) (b:LA):=(xfx c n a b).fst
def xgg (c:Nat) (n a:Int) (b:LA):=i64.wrap (xf2 c n a b+a)
def xfV (b:Nat) (n a:Int) (c:LA):=xbh 1000 b (xf2 b n a c) (xgg b n a c) n (xf9 b n a c)
def xdX {T:Type} (c:Nat) (n a:Int) (b:LA) (δ:T) (κl:(Int×LA)→T) (κr:(LA)→T):T:=br (decide (a<n)) (br ((xfW c n a b).isSome) (br (decide (xgg c n a b<n)) (br ((xfV c n a b).isSome) (κl (i64.wrap (a*2),(xfV c n a b).getD [])) δ) (κl (i64.wrap (a*2),xf9 c n a b))) δ) (κr (b))
def xbn (c:Nat) (n:Int):(Int×LA)→Option ((Int×LA)⊕(LA)):=fun (a,b)=>xdX c n a b none (fun s=>some (.inl s)) (fun p=>some (.inr p))
def xd7 (c:Nat) (n:Int):(Int×LA)→LA×List Box:=fun (a,b)=>([AV.osl 0 0 0 c,AV.int .i64 n,AV.func 88 [],AV.int .i64 a],[⟨0,1,40,b,false,true⟩])
def xdo (a:Nat) (n:Int):(LA)→LR:=fun p=>(.leaf (.exit 2) [] [⟨0,1,40,p,false,true⟩])
abbrev xti (a:LA) (H:List Box):=XR Tryz.prog xeB [0,1,2,6] [] [] (loopAt Tryz.f137 1) a H
theorem xtq (a:Nat) (n:Int) (s:Int×LA):Enc (encR (xd7 a n) (xdo a n)) (xbn a n s) (xti (xd7 a n s).1 (xd7 a n s).2):=by
 obtain ⟨b,c⟩:=s
 refine eV (xdX a n b c none (fun s=>some (encR (xd7 a n) (xdo a n) (.inl s))) (fun p=>some (encR (xd7 a n) (xdo a n) (.inr p)))) (by kernel_rfl) ?_;unfold xbn xdX;repeat' first|exact eN|exact eS rfl|apply eB
def xlV:Lp:=lpOf [0,1,2,6] [] [] (pCons (pOsl 0 0 0) (pCons (pInt .i64) (pCons (pFunc 88 pNil) (pCons (pInt .i64) pNil)))) (pCons (pBox 0 1 40 false true pAny) pNil) fun (b,(n,(_,(a,_)))) (c,_)=>((Iter (xbn b n) (a,c)).isSome,xdo b n ((Iter (xbn b n) (a,c)).getD []))
theorem xrX:LoopOk Tryz.prog (ITryz.at xeB.pin) xeB.nt (loopAt Tryz.f137 1) xlV:=xbm fun e f h g=>by
 obtain ⟨a,⟨n,⟨_,⟨b,_⟩⟩⟩⟩:=e
 obtain ⟨c,_⟩:=f
 obtain ⟨d,rfl⟩:=Prod.mk.inj g
 exact xa6 mxTryz (inv0Ok Tryz.prog _) rfl xsy xpi (xd7 a n) (xdo a n) (fun p=>by simp only [xdo,LR.eval];first|(simp;done)|(repeat' split<;>simp)) (xtq a n) (s:=(b,c)) (xac d)
def xfo:Env:=xBr.fn 63 1 (lsOf [40]) (lpsOf [(2,xf5),(9,xia),(7,xlV)])
theorem xsD:OrcOk Tryz.prog (ITryz.at 1) xfo:=xu0.fn
theorem xqC:LoOk Tryz.prog (ITryz.at xfo.pin) xfo (Tryz.f137.body.getD .skip):=xbe (ls:=[loopAt Tryz.f137 0,loopAt Tryz.f137 1,loopAt Tryz.f137 2]) (by kernel_rfl) (lkC xrT (lkC xrX (lkC xlD lkN)))
def xjv (n:Nat) (k:Int) (a:LA):=(Iter (xbM n k 20) (0,20,a)).getD (0,[])
def xjH (n:Nat) (k:Int) (a:LA):=xbs n (xjv n k a).fst k (xjv n k a).snd
def xjB (n:Nat) (k:Int) (a:LA):=Iter (xbn n k) (20,(xjH n k a).getD [])
def xhu {T:Type} (n:Nat) (k:Int) (a:LA) (δ:T) (κ:LA→T):T:=br ((Iter (xbM n k 20) (0,20,a)).isSome) (br ((xjH n k a).isSome) (br ((xjB n k a).isSome) (κ ((xjB n k a).getD [])) δ) δ) δ
def xdC (n:Nat) (k:Int) (a:LA):Option (LA):=xhu n k a none some
theorem xuF (n:Nat) (k:Int) (xs:LA):Enc (fun (p:LA)=>(((AV.tuple [],([⟨0,1,40,p,false,true⟩]:List Box))):(AV×List Box))) (xdC n k xs) (XFM Tryz.prog xfo Tryz.f137 (Tryz.f137.body.getD .skip) [AV.osl (0:Id) 0 0 n,AV.int .i64 k,AV.func (88:FuncId) []] [{ ver:=0,sz:=1,ty:=(40:TypeId),xs:=xs,frz:=false,pm:=true }]):=by
 refine eV (xhu n k xs none (fun (p:LA)=>some (((AV.tuple [],([⟨0,1,40,p,false,true⟩]:List Box))):(AV×List Box)))) (by kernel_rfl) ?_;unfold xdC xhu;repeat' first|exact eN|exact eS rfl|apply eB
def xnY:LA→List Box→Option (Bool×AV×List Box):=omOf (sCons (sEq (pOsl 0 0 0)) (sCons (sEq (pInt .i64)) (sCons (sEq (pFunc (88:FuncId) pNil)) sNil))) (pCons (pBox 0 1 (40:TypeId) false true pAny) pNil) fun (n,(k,(_,_))) (a,_)=>((xdC n k a).isSome,((AV.tuple [],([⟨0,1,40,((xdC n k a).getD []),false,true⟩]:List Box))))
theorem xuX:OmOk Tryz.prog ITryz 137 (xnY):=xeQ fun c e h g f=>by
 obtain ⟨n,⟨k,⟨_,_⟩⟩⟩:=c
 obtain ⟨i,_⟩:=e
 obtain ⟨a,b⟩:=Prod.mk.inj f
 refine xdE (p:=xfo.pin) (xd4 mxTryz (inv0Ok Tryz.prog _) rfl xsD rfl Tryz.func137 rfl (by kernel_rfl) xqC ((xuF _ _ _ _ (xac (d:=[]) a)).trans ?_))
 exact congrArg some b
def xKO:Env:=xBr.withM 137 xnY
theorem xId:OrcOk Tryz.prog ITryz xKO:=xu0.withM xuX
def xe6:Env:=xKO.fn 9 1 (lsOf [40]) (lpsOf [])
theorem xr4:OrcOk Tryz.prog (ITryz.at 1) xe6:=xId.fn
theorem xp0:LoOk Tryz.prog (ITryz.at xe6.pin) xe6 (Tryz.f112.body.getD .skip):=xaD (by kernel_rfl)
def xg9 {T:Type} (n:Nat) (a:LA) (δ:T) (κ:LA→T):T:=br ((xdC n (↑n:Int) a).isSome) (κ ((xdC n (↑n:Int) a).getD [])) δ
def xeW (n:Nat) (a:LA):Option (LA):=xg9 n a none some
theorem xt2 (n:Nat) (xs:LA):Enc (fun (p:LA)=>(((AV.tuple [],([⟨0,1,40,p,false,true⟩]:List Box))):(AV×List Box))) (xeW n xs) (XFM Tryz.prog xe6 Tryz.f112 (Tryz.f112.body.getD .skip) [AV.osl (0:Id) 0 0 n,AV.func (88:FuncId) []] [{ ver:=0,sz:=1,ty:=(40:TypeId),xs:=xs,frz:=false,pm:=true }]):=by
 refine eV (xg9 n xs none (fun (p:LA)=>some (((AV.tuple [],([⟨0,1,40,p,false,true⟩]:List Box))):(AV×List Box)))) (by kernel_rfl) ?_;unfold xeW xg9;repeat' first|exact eN|exact eS rfl|apply eB
def xm9:LA→List Box→Option (Bool×AV×List Box):=omOf (sCons (sEq (pOsl 0 0 0)) (sCons (sEq (pFunc (88:FuncId) pNil)) sNil)) (pCons (pBox 0 1 (40:TypeId) false true pAny) pNil) fun (n,(_,_)) (a,_)=>((xeW n a).isSome,((AV.tuple [],([⟨0,1,40,((xeW n a).getD []),false,true⟩]:List Box))))
theorem xui:OmOk Tryz.prog ITryz 112 (xm9):=xeQ fun c e h g f=>by
 obtain ⟨n,⟨_,_⟩⟩:=c
 obtain ⟨i,_⟩:=e
 obtain ⟨a,b⟩:=Prod.mk.inj f
 refine xdE (p:=xe6.pin) (xd4 mxTryz (inv0Ok Tryz.prog _) rfl xr4 rfl Tryz.func112 rfl (by kernel_rfl) xp0 ((xt2 _ _ _ (xac (d:=[]) a)).trans ?_))
 exact congrArg some b
def xHi:Env:=xKO.withM 112 xm9
theorem xCV:OrcOk Tryz.prog ITryz xHi:=xId.withM xui
def xhA:Env:=xHi.fn 27 0 (lsOf [40]) (lpsOf [])
theorem xyZ:OrcOk Tryz.prog (ITryz.at 0) xhA:=xCV.fn
theorem xux:LoOk Tryz.prog (ITryz.at xhA.pin) xhA (loopAt Tryz.f87 0):=xaD (by kernel_rfl)
def xh4 {T:Type} (d:LA) (e:Int) (a:Nat) (b:Int) (c:LA) (δ:T) (κl:(Nat×Int×LA)→T) (κr:(Nat×LA)→T):T:=br (decide (b<e)) (br (decide (0≤b)&&decide (b<d.length)) (br (decide (b.toNat<d.length)&&hasSh1 (Sh.list 3) ((d.getD b.toNat .top).cells.getD 0 .top)) (br (decide (((d.getD b.toNat .top).cells.getD 0 .top).toList.length≤4398046511104)) (br (a==c.length&&(decide ((a+1)*24≤140737488355328)&&decide (a+1≤4611686018427387904))) (κl (a+1,i64.wrap (b+1),c++[AV.list 3 ((d.getD b.toNat .top).cells.getD 0 .top).toList])) δ) δ) δ) δ) (κr (a,c))
def xb6 (c:LA) (d:Int):(Nat×Int×LA)→Option ((Nat×Int×LA)⊕(Nat×LA)):=fun (b,e,a)=>xh4 c d b e a none (fun s=>some (.inl s)) (fun p=>some (.inr p))
def xgI (c:LA) (d:Int):(Nat×Int×LA)→LA×List Box:=fun (b,e,a)=>([AV.func 88 [],AV.osl 0 0 0 b,AV.list 1 c,AV.int .i64 d,AV.int .i64 e],[⟨0,1,40,a,false,true⟩])
def xfI (a:LA) (b:Int):(Nat×LA)→LR:=fun p=>(.leaf (.exit 0) [AV.func 88 [],AV.osl 0 0 0 p.1] [⟨0,1,40,p.2,false,true⟩])
abbrev xzB (a:LA) (H:List Box):=XR Tryz.prog xhA [1,5,11,12,13] [1,5] [(5,1,40)] (loopAt Tryz.f87 0) a H
theorem xzz (a:LA) (b:Int) (s:Nat×Int×LA):Enc (encR (xgI a b) (xfI a b)) (xb6 a b s) (xzB (xgI a b s).1 (xgI a b s).2):=by
 obtain ⟨d,e,c⟩:=s
 refine eV (xh4 a b d e c none (fun s=>some (encR (xgI a b) (xfI a b) (.inl s))) (fun p=>some (encR (xgI a b) (xfI a b) (.inr p)))) (by kernel_rfl) ?_;unfold xb6 xh4;repeat' first|exact eN|exact eS rfl|apply eB
def xqY:Lp:=lpOf [1,5,11,12,13] [1,5] [(5,1,40)] (pCons (pFunc 88 pNil) (pCons (pOsl 0 0 0) (pCons (pList 1 pAny) (pCons (pInt .i64) (pCons (pInt .i64) pNil))))) (pCons (pBox 0 1 40 false true pAny) pNil) fun (_,(b,(c,(d,(e,_))))) (a,_)=>((Iter (xb6 c d) (b,e,a)).isSome,xfI c d ((Iter (xb6 c d) (b,e,a)).getD (0,[])))
theorem xyr:LoopOk Tryz.prog (ITryz.at xhA.pin) xhA.nt (loopAt Tryz.f87 0) xqY:=xbm fun g h j i=>by
 obtain ⟨_,⟨d,⟨a,⟨b,⟨e,_⟩⟩⟩⟩⟩:=g
 obtain ⟨c,_⟩:=h
 obtain ⟨f,rfl⟩:=Prod.mk.inj i
 exact xa6 mxTryz (inv0Ok Tryz.prog _) rfl xyZ xux (xgI a b) (xfI a b) (fun p=>by simp only [xfI,LR.eval];first|(simp;done)|(repeat' split<;>simp)) (xzz a b) (s:=(d,e,c)) (xac f)
def xjo:Env:=xHi.fn 27 0 (lsOf [40]) (lpsOf [(3,xqY)])
theorem xy2:OrcOk Tryz.prog (ITryz.at 0) xjo:=xCV.fn
theorem xwm:LoOk Tryz.prog (ITryz.at xjo.pin) xjo (Tryz.f87.body.getD .skip):=xbe (ls:=[loopAt Tryz.f87 0]) (by kernel_rfl) (lkC xyr lkN)
def xoU (l:LA):=(Iter (xb6 l (↑l.length:Int)) (0,0,[])).getD (0,[])
def xlJ (l:LA):=(xoU l).fst
def xoW (l:LA):=xeW (xlJ l) (xoU l).snd
def xo7 (l:LA):=(xoW l).getD []
def xmv {T:Type} (l:LA) (δ:T) (κ:LA→T):T:=br (decide (24*(↑l.length:Int)≤281474976710656)&&decide ((↑l.length:Int)≤4611686018427387904)) (br ((Iter (xb6 l (↑l.length:Int)) (0,0,[])).isSome) (br ((xoW l).isSome) (br (decide (0+xlJ l≤(xo7 l).length)&&true) (κ (List.take (xlJ l) (List.drop 0 (xo7 l)))) δ) δ) δ) δ
def xiq (l:LA):Option (LA):=xmv l none some
theorem xDb (l:LA):Enc (fun (p:LA)=>((AV.list 1 p):AV)) (xiq l) (XF Tryz.prog xjo Tryz.f87 (Tryz.f87.body.getD .skip) [AV.list 1 l,AV.func (88:FuncId) []]):=by
 refine eV (xmv l none (fun (p:LA)=>some ((AV.list 1 p):AV))) (by kernel_rfl) ?_;unfold xiq xmv;repeat' first|exact eN|exact eS rfl|apply eB
def xuE:LA→Option (Bool×AV):=ocOf (sCons (sList 1 pAny) (sCons (sEq (pFunc (88:FuncId) pNil)) sNil)) fun (l,(_,_))=>((xiq l).isSome,(AV.list 1 ((xiq l).getD [])))
theorem xCF:OcOk Tryz.prog ITryz 87 (xuE):=xbg fun c f e=>by
 obtain ⟨l,⟨_,_⟩⟩:=c
 obtain ⟨a,b⟩:=Prod.mk.inj e
 refine xa7 (p:=xjo.pin) (xbd mxTryz (inv0Ok Tryz.prog _) rfl xy2 Tryz.func87 rfl (by kernel_rfl) xwm ((xDb _ _ (xac (d:=[]) a)).trans ?_))
 exact congrArg some b
def xKn:Env:=xHi.with 87 xuE
theorem xHs:OrcOk Tryz.prog ITryz xKn:=xCV.with xCF
def xmJ:Env:=xKn.fn 5 0 (lsOf []) (lpsOf [])
theorem xCM:OrcOk Tryz.prog (ITryz.at 0) xmJ:=xHs.fn
theorem xz2:LoOk Tryz.prog (ITryz.at xmJ.pin) xmJ (Tryz.f63.body.getD .skip):=xaD (by kernel_rfl)
def xqS {T:Type} (l:LA) (δ:T) (κ:LA→T):T:=br ((xiq l).isSome) (κ ((xiq l).getD [])) δ
def xkR (l:LA):Option (LA):=xqS l none some
theorem xHK (l:LA):Enc (fun (p:LA)=>((AV.list 1 p):AV)) (xkR l) (XF Tryz.prog xmJ Tryz.f63 (Tryz.f63.body.getD .skip) [AV.list 1 l]):=by
 refine eV (xqS l none (fun (p:LA)=>some ((AV.list 1 p):AV))) (by kernel_rfl) ?_;unfold xkR xqS;repeat' first|exact eN|exact eS rfl|apply eB
def xAm:LA→Option (Bool×AV):=ocOf (sCons (sList 1 pAny) sNil) fun (l,_)=>((xkR l).isSome,(AV.list 1 ((xkR l).getD [])))
theorem xHy:OcOk Tryz.prog ITryz 63 (xAm):=xbg fun c f e=>by
 obtain ⟨l,_⟩:=c
 obtain ⟨a,b⟩:=Prod.mk.inj e
 refine xa7 (p:=xmJ.pin) (xbd mxTryz (inv0Ok Tryz.prog _) rfl xCM Tryz.func63 rfl (by kernel_rfl) xz2 ((xHK _ _ (xac (d:=[]) a)).trans ?_))
 exact congrArg some b
def xOS:Env:=xKn.with 63 xAm
theorem xNR:OrcOk Tryz.prog ITryz xOS:=xHs.with xHy
abbrev EKV:Env:=xOS
theorem xP6:OrcOk Tryz.prog ITryz EKV:=xNR
end Go.Sim.M
end
noncomputable section
set_option maxRecDepth 100000
namespace Go.Sim.M
open Go.IntKind (i64 u64 u8)
open Go.RowKit Go.Proofs
abbrev xOZ:Env:=EKV
theorem xOb:OrcOk Tryz.prog ITryz xOZ:=xP6
abbrev xKN:Env:=xOZ
theorem xHH:OrcOk Tryz.prog ITryz xKN:=xOb
def xg0:Env:=xKN.fn 25 0 (lsOf []) (lpsOf [])
theorem xw7:OrcOk Tryz.prog (ITryz.at 0) xg0:=xHH.fn
theorem xvo:LoOk Tryz.prog (ITryz.at xg0.pin) xg0 (Tryz.f85.body.getD .skip):=xaD (by kernel_rfl)
def xht (a b c d:Int):Bool:=(br (xdP a b) (br (xdP c d) (br (decide (a<d)) ((decide (c<b))) ((false))) ((false))) ((false)))
def xsi (a b c d:Int):Bool:=true
def xtY {T:Type} (a b c d:Int) (δ:T) (κ:Bool→T):T:=br (xdP a b) (br (xdP c d) (br (decide (a<d)) (κ (decide (c<b))) (κ (false))) (κ (false))) (κ (false))
theorem xBI (a b c d:Int):Pre (xsi a b c d) (XF Tryz.prog xg0 Tryz.f85 (Tryz.f85.body.getD .skip) [AV.agg [AV.int .i64 a,AV.int .i64 b],AV.agg [AV.int .i64 c,AV.int .i64 d]]) (AV.bool (xht a b c d)):=by
 have h:XF Tryz.prog xg0 Tryz.f85 (Tryz.f85.body.getD .skip) [AV.agg [AV.int .i64 a,AV.int .i64 b],AV.agg [AV.int .i64 c,AV.int .i64 d]]=xtY a b c d none (fun (p:Bool)=>some ((AV.bool p):AV)):=by kernel_rfl
 rw [h];unfold xht xsi xtY;repeat' (first|exact Pre.none|exact Pre.tt rfl|exact Pre.some rfl|refine Pre.l ?_|refine Pre.r ?_|refine Pre.br (f:=fun (p:Bool)=>((AV.bool p):AV)) ?_ ?_|refine Pre.brt (f:=fun (p:Bool)=>((AV.bool p):AV)) ?_ ?_)
def xtU:LA→Option (Bool×AV):=ocOf (sCons (sAgg (sCons (sEq (pInt .i64)) (sCons (sEq (pInt .i64)) sNil))) (sCons (sAgg (sCons (sEq (pInt .i64)) (sCons (sEq (pInt .i64)) sNil))) sNil)) fun ((a,(b,_)),((c,(d,_)),_))=>(true,(AV.bool (xht a b c d)))
theorem xBE:OcOk Tryz.prog ITryz 85 (xtU):=xbg fun b i c=>by
 obtain ⟨⟨d,⟨e,_⟩⟩,⟨⟨f,⟨g,_⟩⟩,_⟩⟩:=b
 obtain ⟨h,a⟩:=Prod.mk.inj c
 refine xa7 (p:=xg0.pin) (xbd mxTryz (inv0Ok Tryz.prog _) rfl xw7 Tryz.func85 rfl (by kernel_rfl) xvo ((Pre.get (xBI _ _ _ _) rfl).trans ?_))
 exact congrArg some a
def xKK:Env:=xKN.with 85 xtU
theorem xH7:OrcOk Tryz.prog ITryz xKK:=xHH.with xBE
def xgK:Env:=xKK.fn 22 0 (lsOf []) (lpsOf [])
theorem xwj:OrcOk Tryz.prog (ITryz.at 0) xgK:=xH7.fn
theorem xus:LoOk Tryz.prog (ITryz.at xgK.pin) xgK (Tryz.f58.body.getD .skip):=xaD (by kernel_rfl)
def xcw (a b c d:Int):Int×Int×Bool:=(br (!xht a b c d) ((0,0,false)) ((if c>a then c else a,if d<b then d else b,true)))
def xqV (a b c d:Int):Bool:=true
def xs2 {T:Type} (a b c d:Int) (δ:T) (κ:Int×Int×Bool→T):T:=br (!xht a b c d) (κ (0,0,false)) (κ (if c>a then c else a,if d<b then d else b,true))
theorem xAB (a b c d:Int):Pre (xqV a b c d) (XF Tryz.prog xgK Tryz.f58 (Tryz.f58.body.getD .skip) [AV.agg [AV.int .i64 a,AV.int .i64 b],AV.agg [AV.int .i64 c,AV.int .i64 d]]) (AV.tuple [AV.agg [AV.int .i64 (xcw a b c d).1,AV.int .i64 (xcw a b c d).2.1],AV.bool (xcw a b c d).2.2]):=by
 have h:XF Tryz.prog xgK Tryz.f58 (Tryz.f58.body.getD .skip) [AV.agg [AV.int .i64 a,AV.int .i64 b],AV.agg [AV.int .i64 c,AV.int .i64 d]]=xs2 a b c d none (fun (p:Int×Int×Bool)=>some ((AV.tuple [AV.agg [AV.int .i64 p.1,AV.int .i64 p.2.1],AV.bool p.2.2]):AV)):=by kernel_rfl
 rw [h];unfold xcw xqV xs2;repeat' (first|exact Pre.none|exact Pre.tt rfl|exact Pre.some rfl|refine Pre.l ?_|refine Pre.r ?_|refine Pre.br (f:=fun (p:Int×Int×Bool)=>((AV.tuple [AV.agg [AV.int .i64 p.1,AV.int .i64 p.2.1],AV.bool p.2.2]):AV)) ?_ ?_|refine Pre.brt (f:=fun (p:Int×Int×Bool)=>((AV.tuple [AV.agg [AV.int .i64 p.1,AV.int .i64 p.2.1],AV.bool p.2.2]):AV)) ?_ ?_)
def xs9:LA→Option (Bool×AV):=ocOf (sCons (sAgg (sCons (sEq (pInt .i64)) (sCons (sEq (pInt .i64)) sNil))) (sCons (sAgg (sCons (sEq (pInt .i64)) (sCons (sEq (pInt .i64)) sNil))) sNil)) fun ((a,(b,_)),((c,(d,_)),_))=>(true,(AV.tuple [AV.agg [AV.int .i64 (xcw a b c d).1,AV.int .i64 (xcw a b c d).2.1],AV.bool (xcw a b c d).2.2]))
theorem xAH:OcOk Tryz.prog ITryz 58 (xs9):=xbg fun b i c=>by
 obtain ⟨⟨d,⟨e,_⟩⟩,⟨⟨f,⟨g,_⟩⟩,_⟩⟩:=b
 obtain ⟨h,a⟩:=Prod.mk.inj c
 refine xa7 (p:=xgK.pin) (xbd mxTryz (inv0Ok Tryz.prog _) rfl xwj Tryz.func58 rfl (by kernel_rfl) xus ((Pre.get (xAB _ _ _ _) rfl).trans ?_))
 exact congrArg some a
def xHn:Env:=xKK.with 58 xs9
theorem xCX:OrcOk Tryz.prog ITryz xHn:=xH7.with xAH
def xgd:Env:=xHn.fn 34 0 (lsOf []) (lpsOf [])
theorem xvf:OrcOk Tryz.prog (ITryz.at 0) xgd:=xCX.fn
theorem xsP:LoOk Tryz.prog (ITryz.at xgd.pin) xgd (loopAt Tryz.f23 0):=xaD (by kernel_rfl)
def xgP {T:Type} (b:LA) (g:Int) (c:Nat) (a e f:Int) (d:LA) (δ:T) (κl:(Nat×Int×Int×Int×LA)→T) (κr:(Nat×LA)→T):T:=br (decide (a<g)) (br (decide (0≤a)&&decide (a<b.length)) (br (decide (a.toNat<b.length)&&((b.getD a.toNat .top).cells.length==3&&hasShs [Sh.list 3,Sh.int .i64,Sh.int .i64] (b.getD a.toNat .top).cells 0)) (br ((xcw ((b.getD a.toNat .top).cells.getD 1 .top).toInt ((b.getD a.toNat .top).cells.getD 2 .top).toInt e f).snd.snd) (br (c==d.length&&(decide ((c+1)*40≤140737488355328)&&decide (c+1≤4611686018427387904))) (κl (c+1,i64.wrap (a+1),e,f,d++[AV.agg [AV.list 3 ((b.getD a.toNat .top).cells.getD 0 .top).toList,AV.int .i64 (xcw ((b.getD a.toNat .top).cells.getD 1 .top).toInt ((b.getD a.toNat .top).cells.getD 2 .top).toInt e f).fst,AV.int .i64 (xcw ((b.getD a.toNat .top).cells.getD 1 .top).toInt ((b.getD a.toNat .top).cells.getD 2 .top).toInt e f).snd.fst]])) δ) (κl (c,i64.wrap (a+1),e,f,d))) δ) δ) (κr (c,d))
def xb3 (e:LA) (f:Int):(Nat×Int×Int×Int×LA)→Option ((Nat×Int×Int×Int×LA)⊕(Nat×LA)):=fun (b,g,c,d,a)=>xgP e f b g c d a none (fun s=>some (.inl s)) (fun p=>some (.inr p))
def xfd (e:LA) (f:Int):(Nat×Int×Int×Int×LA)→LA×List Box:=fun (b,g,c,d,a)=>([AV.own 0 0 0 0,AV.osl 1 0 0 b,AV.list 3 e,AV.int .i64 f,AV.int .i64 g],[⟨0,2,31,[AV.agg [AV.int .i64 c,AV.int .i64 d]],false,true⟩,⟨0,3,42,a,false,true⟩])
def xeJ (a:LA) (b:Int):(Nat×LA)→LR:=fun p=>(.leaf (.exit 0) [AV.osl 0 0 0 p.1] [⟨0,3,42,p.2,false,true⟩])
abbrev xwi (a:LA) (H:List Box):=XR Tryz.prog xgd [3,5,10,11,12] [5] [(5,3,42)] (loopAt Tryz.f23 0) a H
theorem xv2 (a:LA) (b:Int) (s:Nat×Int×Int×Int×LA):Enc (encR (xfd a b) (xeJ a b)) (xb3 a b s) (xwi (xfd a b s).1 (xfd a b s).2):=by
 obtain ⟨d,g,e,f,c⟩:=s
 refine eV (xgP a b d g e f c none (fun s=>some (encR (xfd a b) (xeJ a b) (.inl s))) (fun p=>some (encR (xfd a b) (xeJ a b) (.inr p)))) (by kernel_rfl) ?_;unfold xb3 xgP;repeat' first|exact eN|exact eS rfl|apply eB
def xoO:Lp:=lpOf [3,5,10,11,12] [5] [(5,3,42)] (pCons (pOwn 0 0 0 0) (pCons (pOsl 1 0 0) (pCons (pList 3 pAny) (pCons (pInt .i64) (pCons (pInt .i64) pNil))))) (pCons (pBox 0 2 31 false true (pCons (pAgg (pCons (pInt .i64) (pCons (pInt .i64) pNil))) pNil)) (pCons (pBox 0 3 42 false true pAny) pNil)) fun (_,(b,(c,(d,(g,_))))) (((e,(f,_)),_),(a,_))=>((Iter (xb3 c d) (b,g,e,f,a)).isSome,xeJ c d ((Iter (xb3 c d) (b,g,e,f,a)).getD (0,[])))
theorem xu3:LoopOk Tryz.prog (ITryz.at xgd.pin) xgd.nt (loopAt Tryz.f23 0) xoO:=xbm fun i j l k=>by
 obtain ⟨_,⟨d,⟨a,⟨b,⟨g,_⟩⟩⟩⟩⟩:=i
 obtain ⟨⟨⟨e,⟨f,_⟩⟩,_⟩,⟨c,_⟩⟩:=j
 obtain ⟨h,rfl⟩:=Prod.mk.inj k
 exact xa6 mxTryz (inv0Ok Tryz.prog _) rfl xvf xsP (xfd a b) (xeJ a b) (fun p=>by simp only [xeJ,LR.eval];first|(simp;done)|(repeat' split<;>simp)) (xv2 a b) (s:=(d,g,e,f,c)) (xac h)
def xhj:Env:=xHn.fn 34 0 (lsOf []) (lpsOf [(3,xoO)])
theorem xvk:OrcOk Tryz.prog (ITryz.at 0) xhj:=xCX.fn
theorem xt7:LoOk Tryz.prog (ITryz.at xhj.pin) xhj (Tryz.f23.body.getD .skip):=xbe (ls:=[loopAt Tryz.f23 0]) (by kernel_rfl) (lkC xu3 lkN)
def xmD (l:LA) (a b:Int):=Iter (xb3 l (↑l.length:Int)) (0,0,a,b,[])
def xmr (l:LA) (a b:Int):=(xmD l a b).getD (0,[])
def xmq (l:LA) (a b:Int):=(xmr l a b).snd
def xms (l:LA) (a b:Int):=(xmr l a b).fst
def xmB (l:LA) (a b:Int):=xdM (List.take (xms l a b) (List.drop 0 (xmq l a b)))
def xj7 {T:Type} (l:LA) (a b:Int) (δ:T) (κ:LA→T):T:=br ((xmD l a b).isSome) (br (decide (0+xms l a b≤(xmq l a b).length)&&true) (br ((xmB l a b).isSome) (κ ((xmB l a b).getD [])) δ) δ) δ
def xbX (l:LA) (a b:Int):Option (LA):=xj7 l a b none some
theorem xzW (l:LA) (a b:Int):Enc (fun (p:LA)=>((AV.list 3 p):AV)) (xbX l a b) (XF Tryz.prog xhj Tryz.f23 (Tryz.f23.body.getD .skip) [AV.list 3 l,AV.agg [AV.int .i64 a,AV.int .i64 b]]):=by
 refine eV (xj7 l a b none (fun (p:LA)=>some ((AV.list 3 p):AV))) (by kernel_rfl) ?_;unfold xbX xj7;repeat' first|exact eN|exact eS rfl|apply eB
def xse:LA→Option (Bool×AV):=ocOf (sCons (sList 3 pAny) (sCons (sAgg (sCons (sEq (pInt .i64)) (sCons (sEq (pInt .i64)) sNil))) sNil)) fun (l,((a,(b,_)),_))=>((xbX l a b).isSome,(AV.list 3 ((xbX l a b).getD [])))
theorem xzM:OcOk Tryz.prog ITryz 23 (xse):=xbg fun c h e=>by
 obtain ⟨l,⟨⟨f,⟨g,_⟩⟩,_⟩⟩:=c
 obtain ⟨a,b⟩:=Prod.mk.inj e
 refine xa7 (p:=xhj.pin) (xbd mxTryz (inv0Ok Tryz.prog _) rfl xvk Tryz.func23 rfl (by kernel_rfl) xt7 ((xzW _ _ _ _ (xac (d:=[]) a)).trans ?_))
 exact congrArg some b
def xOO:Env:=xHn.with 23 xse
theorem xOf:OrcOk Tryz.prog ITryz xOO:=xCX.with xzM
abbrev xOV:Env:=xOO
theorem xN3:OrcOk Tryz.prog ITryz xOV:=xOf
abbrev xOU:Env:=xOV
theorem xN9:OrcOk Tryz.prog ITryz xOU:=xN3
abbrev xOE:Env:=xOU
theorem xOp:OrcOk Tryz.prog ITryz xOE:=xN9
abbrev xOH:Env:=xOE
theorem xNU:OrcOk Tryz.prog ITryz xOH:=xOp
abbrev xLI:Env:=xOH
theorem xNd:OrcOk Tryz.prog ITryz xLI:=xNU
abbrev xID:Env:=xLI
theorem xGs:OrcOk Tryz.prog ITryz xID:=xNd
def xg7:Env:=xID.fn 19 0 (lsOf []) (lpsOf [])
theorem xw1:OrcOk Tryz.prog (ITryz.at 0) xg7:=xGs.fn
theorem xvj:LoOk Tryz.prog (ITryz.at xg7.pin) xg7 (Tryz.f62.body.getD .skip):=xaD (by kernel_rfl)
def xi2 (a b t:Int):Bool:=(br (xdP a b) (br (decide (t≥a)) ((decide (t<b))) ((false))) ((false)))
def xsg (a b t:Int):Bool:=true
def xtZ {T:Type} (a b t:Int) (δ:T) (κ:Bool→T):T:=br (xdP a b) (br (decide (t≥a)) (κ (decide (t<b))) (κ (false))) (κ (false))
theorem xBP (a b t:Int):Pre (xsg a b t) (XF Tryz.prog xg7 Tryz.f62 (Tryz.f62.body.getD .skip) [AV.agg [AV.int .i64 a,AV.int .i64 b],AV.int .i64 t]) (AV.bool (xi2 a b t)):=by
 have h:XF Tryz.prog xg7 Tryz.f62 (Tryz.f62.body.getD .skip) [AV.agg [AV.int .i64 a,AV.int .i64 b],AV.int .i64 t]=xtZ a b t none (fun (p:Bool)=>some ((AV.bool p):AV)):=by kernel_rfl
 rw [h];unfold xi2 xsg xtZ;repeat' (first|exact Pre.none|exact Pre.tt rfl|exact Pre.some rfl|refine Pre.l ?_|refine Pre.r ?_|refine Pre.br (f:=fun (p:Bool)=>((AV.bool p):AV)) ?_ ?_|refine Pre.brt (f:=fun (p:Bool)=>((AV.bool p):AV)) ?_ ?_)
def xtW:LA→Option (Bool×AV):=ocOf (sCons (sAgg (sCons (sEq (pInt .i64)) (sCons (sEq (pInt .i64)) sNil))) (sCons (sEq (pInt .i64)) sNil)) fun ((a,(b,_)),(t,_))=>(true,(AV.bool (xi2 a b t)))
theorem xBA:OcOk Tryz.prog ITryz 62 (xtW):=xbg fun b g c=>by
 obtain ⟨⟨d,⟨e,_⟩⟩,⟨t,_⟩⟩:=b
 obtain ⟨f,a⟩:=Prod.mk.inj c
 refine xa7 (p:=xg7.pin) (xbd mxTryz (inv0Ok Tryz.prog _) rfl xw1 Tryz.func62 rfl (by kernel_rfl) xvj ((Pre.get (xBP _ _ _) rfl).trans ?_))
 exact congrArg some a
def xEp:Env:=xID.with 62 xtW
theorem xAC:OrcOk Tryz.prog ITryz xEp:=xGs.with xBA
def xjT:Env:=xEp.fn 26 0 (lsOf []) (lpsOf [])
theorem xBL:OrcOk Tryz.prog (ITryz.at 0) xjT:=xAC.fn
theorem xyf:LoOk Tryz.prog (ITryz.at xjT.pin) xjT (loopAt Tryz.f28 0):=xaD (by kernel_rfl)
def xjX {T:Type} (t:Int) (d:LA) (e:Int) (b:Nat) (a:Int) (c:LA) (δ:T) (κl:(Nat×Int×LA)→T) (κr:(Nat×LA)→T):T:=br (decide (a<e)) (br (decide (0≤a)&&decide (a<d.length)) (br (decide (a.toNat<d.length)&&((d.getD a.toNat .top).cells.length==3&&hasShs [Sh.list 3,Sh.int .i64,Sh.int .i64] (d.getD a.toNat .top).cells 0)) (br (xi2 ((d.getD a.toNat .top).cells.getD 1 .top).toInt ((d.getD a.toNat .top).cells.getD 2 .top).toInt t) (br (b==c.length&&(decide ((b+1)*24≤140737488355328)&&decide (b+1≤4611686018427387904))) (κl (b+1,i64.wrap (a+1),c++[AV.list 3 ((d.getD a.toNat .top).cells.getD 0 .top).toList])) δ) (κl (b,i64.wrap (a+1),c))) δ) δ) (κr (b,c))
def xdQ (t:Int) (d:LA) (e:Int):(Nat×Int×LA)→Option ((Nat×Int×LA)⊕(Nat×LA)):=fun (b,c,a)=>xjX t d e b c a none (fun s=>some (.inl s)) (fun p=>some (.inr p))
def xib (t:Int) (d:LA) (e:Int):(Nat×Int×LA)→LA×List Box:=fun (b,c,a)=>([AV.int .i64 t,AV.osl 0 0 0 b,AV.list 3 d,AV.int .i64 e,AV.int .i64 c],[⟨0,1,40,a,false,true⟩])
def xg5 (t:Int) (a:LA) (b:Int):(Nat×LA)→LR:=fun p=>(.leaf (.exit 0) [AV.osl 0 0 0 p.1] [⟨0,1,40,p.2,false,true⟩])
abbrev xC3 (a:LA) (H:List Box):=XR Tryz.prog xjT [1,5,8,9,10] [5] [(5,1,40)] (loopAt Tryz.f28 0) a H
theorem xCK (t:Int) (a:LA) (b:Int) (s:Nat×Int×LA):Enc (encR (xib t a b) (xg5 t a b)) (xdQ t a b s) (xC3 (xib t a b s).1 (xib t a b s).2):=by
 obtain ⟨d,e,c⟩:=s
 refine eV (xjX t a b d e c none (fun s=>some (encR (xib t a b) (xg5 t a b) (.inl s))) (fun p=>some (encR (xib t a b) (xg5 t a b) (.inr p)))) (by kernel_rfl) ?_;unfold xdQ xjX;repeat' first|exact eN|exact eS rfl|apply eB
def xtV:Lp:=lpOf [1,5,8,9,10] [5] [(5,1,40)] (pCons (pInt .i64) (pCons (pOsl 0 0 0) (pCons (pList 3 pAny) (pCons (pInt .i64) (pCons (pInt .i64) pNil))))) (pCons (pBox 0 1 40 false true pAny) pNil) fun (t,(b,(d,(e,(c,_))))) (a,_)=>((Iter (xdQ t d e) (b,c,a)).isSome,xg5 t d e ((Iter (xdQ t d e) (b,c,a)).getD (0,[])))
theorem xAa:LoopOk Tryz.prog (ITryz.at xjT.pin) xjT.nt (loopAt Tryz.f28 0) xtV:=xbm fun g h j i=>by
 obtain ⟨t,⟨b,⟨c,⟨d,⟨e,_⟩⟩⟩⟩⟩:=g
 obtain ⟨a,_⟩:=h
 obtain ⟨f,rfl⟩:=Prod.mk.inj i
 exact xa6 mxTryz (inv0Ok Tryz.prog _) rfl xBL xyf (xib t c d) (xg5 t c d) (fun p=>by simp only [xg5,LR.eval];first|(simp;done)|(repeat' split<;>simp)) (xCK t c d) (s:=(b,e,a)) (xac f)
def xma:Env:=xEp.fn 26 0 (lsOf []) (lpsOf [(3,xtV)])
theorem xBV:OrcOk Tryz.prog (ITryz.at 0) xma:=xAC.fn
theorem xzt:LoOk Tryz.prog (ITryz.at xma.pin) xma (Tryz.f28.body.getD .skip):=xbe (ls:=[loopAt Tryz.f28 0]) (by kernel_rfl) (lkC xAa lkN)
def xsk (l:LA) (t:Int):=(Iter (xdQ t l (↑l.length:Int)) (0,0,[])).getD (0,[])
def xsj (l:LA) (t:Int):=(xsk l t).snd
def xsl (l:LA) (t:Int):=(xsk l t).fst
def xsr (l:LA) (t:Int):=xkR (List.take (xsl l t) (List.drop 0 (xsj l t)))
def xpH {T:Type} (l:LA) (t:Int) (δ:T) (κ:LA→T):T:=br ((Iter (xdQ t l (↑l.length:Int)) (0,0,[])).isSome) (br (decide (0+xsl l t≤(xsj l t).length)&&true) (br ((xsr l t).isSome) (κ ((xsr l t).getD [])) δ) δ) δ
def xbI (l:LA) (t:Int):Option (LA):=xpH l t none some
theorem xGP (l:LA) (t:Int):Enc (fun (p:LA)=>((AV.list 1 p):AV)) (xbI l t) (XF Tryz.prog xma Tryz.f28 (Tryz.f28.body.getD .skip) [AV.list 3 l,AV.int .i64 t]):=by
 refine eV (xpH l t none (fun (p:LA)=>some ((AV.list 1 p):AV))) (by kernel_rfl) ?_;unfold xbI xpH;repeat' first|exact eN|exact eS rfl|apply eB
def xzk:LA→Option (Bool×AV):=ocOf (sCons (sList 3 pAny) (sCons (sEq (pInt .i64)) sNil)) fun (l,(t,_))=>((xbI l t).isSome,(AV.list 1 ((xbI l t).getD [])))
theorem xG4:OcOk Tryz.prog ITryz 28 (xzk):=xbg fun c f e=>by
 obtain ⟨l,⟨t,_⟩⟩:=c
 obtain ⟨a,b⟩:=Prod.mk.inj e
 refine xa7 (p:=xma.pin) (xbd mxTryz (inv0Ok Tryz.prog _) rfl xBV Tryz.func28 rfl (by kernel_rfl) xzt ((xGP _ _ _ (xac (d:=[]) a)).trans ?_))
 exact congrArg some b
def xMB:Env:=xEp.with 28 xzk
theorem xMX:OrcOk Tryz.prog ITryz xMB:=xAC.with xG4
abbrev xNc:Env:=xMB
theorem xMG:OrcOk Tryz.prog ITryz xNc:=xMX
abbrev EKQ:Env:=xNc
theorem xMH:OrcOk Tryz.prog ITryz EKQ:=xMG
end Go.Sim.M
end
noncomputable section
set_option maxRecDepth 100000
namespace Go.Sim.M
open Go.IntKind (i64 u64 u8)
open Go.RowKit Go.Proofs
def xkz:Env:=EKQ.fn 7 0 (lsOf []) (lpsOf [])
theorem xC0:OrcOk Tryz.prog (ITryz.at 0) xkz:=xMH.fn
theorem xz3:LoOk Tryz.prog (ITryz.at xkz.pin) xkz (Tryz.f89.body.getD .skip):=xaD (by kernel_rfl)
def xiy (b a:Bool):Int:=(br (b) (((-1))) (br (a) ((1)) ((0))))
def xyb (b a:Bool):Bool:=true
def xAS {T:Type} (b a:Bool) (δ:T) (κ:Int→T):T:=br (b) (κ ((-1))) (br (a) (κ (1)) (κ (0)))
theorem xHP (b a:Bool):Pre (xyb b a) (XF Tryz.prog xkz Tryz.f89 (Tryz.f89.body.getD .skip) [AV.bool b,AV.bool a]) (AV.int .i64 (xiy b a)):=by
 have h:XF Tryz.prog xkz Tryz.f89 (Tryz.f89.body.getD .skip) [AV.bool b,AV.bool a]=xAS b a none (fun (p:Int)=>some ((AV.int .i64 p):AV)):=by kernel_rfl
 rw [h];unfold xiy xyb xAS;repeat' (first|exact Pre.none|exact Pre.tt rfl|exact Pre.some rfl|refine Pre.l ?_|refine Pre.r ?_|refine Pre.br (f:=fun (p:Int)=>((AV.int .i64 p):AV)) ?_ ?_|refine Pre.brt (f:=fun (p:Int)=>((AV.int .i64 p):AV)) ?_ ?_)
def xA8:LA→Option (Bool×AV):=ocOf (sCons (sEq pBool) (sCons (sEq pBool) sNil)) fun (b,(a,_))=>(true,(AV.int .i64 (xiy b a)))
theorem xHG:OcOk Tryz.prog ITryz 89 (xA8):=xbg fun c g d=>by
 obtain ⟨e,⟨a,_⟩⟩:=c
 obtain ⟨f,b⟩:=Prod.mk.inj d
 refine xa7 (p:=xkz.pin) (xbd mxTryz (inv0Ok Tryz.prog _) rfl xC0 Tryz.func89 rfl (by kernel_rfl) xz3 ((Pre.get (xHP _ _) rfl).trans ?_))
 exact congrArg some b
def xIA:Env:=EKQ.with 89 xA8
theorem xGr:OrcOk Tryz.prog ITryz xIA:=xMH.with xHG
def xio:Env:=xIA.fn 48 0 (lsOf []) (lpsOf [])
theorem xzE:OrcOk Tryz.prog (ITryz.at 0) xio:=xGr.fn
theorem xw4:LoOk Tryz.prog (ITryz.at xio.pin) xio (Tryz.f64.body.getD .skip):=xaD (by kernel_rfl)
def xhM (a b:Int) (c:List UInt8) (d e:Int) (f:List UInt8):Int:=(br (a != d) ((xiy (decide (a<d)) (decide (a>d)))) (br (b != e) ((xiy (decide (b<e)) (decide (b>e)))) ((xiy (Op.bytesLess c f) !(Op.bytesLess c f || c==f)))))
def xtx (a b:Int) (c:List UInt8) (d e:Int) (f:List UInt8):Bool:=true
def xvS {T:Type} (a b:Int) (c:List UInt8) (d e:Int) (f:List UInt8) (δ:T) (κ:Int→T):T:=br (a != d) (κ (xiy (decide (a<d)) (decide (a>d)))) (br (b != e) (κ (xiy (decide (b<e)) (decide (b>e)))) (κ (xiy (Op.bytesLess c f) !(Op.bytesLess c f || c==f))))
theorem xEV (a b:Int) (c:List UInt8) (d e:Int) (g:List UInt8):Pre (xtx a b c d e g) (XF Tryz.prog xio Tryz.f64 (Tryz.f64.body.getD .skip) [AV.agg [AV.int .i64 a,AV.int .i64 b,AV.str c],AV.agg [AV.int .i64 d,AV.int .i64 e,AV.str g]]) (AV.int .i64 (xhM a b c d e g)):=by
 have h:XF Tryz.prog xio Tryz.f64 (Tryz.f64.body.getD .skip) [AV.agg [AV.int .i64 a,AV.int .i64 b,AV.str c],AV.agg [AV.int .i64 d,AV.int .i64 e,AV.str g]]=xvS a b c d e g none (fun (p:Int)=>some ((AV.int .i64 p):AV)):=by kernel_rfl
 rw [h];unfold xhM xtx xvS;repeat' (first|exact Pre.none|exact Pre.tt rfl|exact Pre.some rfl|refine Pre.l ?_|refine Pre.r ?_|refine Pre.br (f:=fun (p:Int)=>((AV.int .i64 p):AV)) ?_ ?_|refine Pre.brt (f:=fun (p:Int)=>((AV.int .i64 p):AV)) ?_ ?_)
def xvC:LA→Option (Bool×AV):=ocOf (sCons (sAgg (sCons (sEq (pInt .i64)) (sCons (sEq (pInt .i64)) (sCons (sEq pStr) sNil)))) (sCons (sAgg (sCons (sEq (pInt .i64)) (sCons (sEq (pInt .i64)) (sCons (sEq pStr) sNil)))) sNil)) fun ((a,(b,(c,_))),((d,(e,(f,_))),_))=>(true,(AV.int .i64 (xhM a b c d e f)))
theorem xDS:OcOk Tryz.prog ITryz 64 (xvC):=xbg fun b k c=>by
 obtain ⟨⟨d,⟨e,⟨f,_⟩⟩⟩,⟨⟨g,⟨h,⟨i,_⟩⟩⟩,_⟩⟩:=b
 obtain ⟨j,a⟩:=Prod.mk.inj c
 refine xa7 (p:=xio.pin) (xbd mxTryz (inv0Ok Tryz.prog _) rfl xzE Tryz.func64 rfl (by kernel_rfl) xw4 ((Pre.get (xEV _ _ _ _ _ _) rfl).trans ?_))
 exact congrArg some a
def xEw:Env:=xIA.with 64 xvC
theorem xzX:OrcOk Tryz.prog ITryz xEw:=xGr.with xDS
def xid:Env:=xEw.fn 41 0 (lsOf []) (lpsOf [])
theorem xzy:OrcOk Tryz.prog (ITryz.at 0) xid:=xzX.fn
theorem xvn:LoOk Tryz.prog (ITryz.at xid.pin) xid (loopAt Tryz.f30 0):=xaD (by kernel_rfl)
def xgz (a b:LA) (i:Int):=xhM ((a.getD i.toNat .top).cells.getD 0 .top).toInt ((a.getD i.toNat .top).cells.getD 1 .top).toInt ((a.getD i.toNat .top).cells.getD 2 .top).toStr ((b.getD i.toNat .top).cells.getD 0 .top).toInt ((b.getD i.toNat .top).cells.getD 1 .top).toInt ((b.getD i.toNat .top).cells.getD 2 .top).toStr
def xfM {T:Type} (a b:LA) (i:Int) (δ:T) (κl:(Int)→T) (κr:(Bool×(Int)×(Unit))→T):T:=br (decide (i<a.length)) (br (decide (i<b.length)) (br (decide (0≤i)&&decide (i<a.length)) (br (decide (i.toNat<a.length)&&((a.getD i.toNat .top).cells.length==3&&hasShs [Sh.int .i64,Sh.int .i64,Sh.str] (a.getD i.toNat .top).cells 0)) (br (decide (0≤i)&&decide (i<b.length)) (br (decide (i.toNat<b.length)&&((b.getD i.toNat .top).cells.length==3&&hasShs [Sh.int .i64,Sh.int .i64,Sh.str] (b.getD i.toNat .top).cells 0)) (br (xgz a b i != 0) (κr (true,(xgz a b i),())) (κl (i64.wrap (i+1)))) δ) δ) δ) δ) (κr (false,0,()))) (κr (false,0,()))
def xbK (a b:LA):(Int)→Option ((Int)⊕(Bool×(Int)×(Unit))):=fun (i)=>xfM a b i none (fun s=>some (.inl s)) (fun p=>some (.inr p))
def xg6 (a b:LA):(Int)→LA×List Box:=fun (i)=>([AV.list 3 a,AV.list 3 b,AV.int .i64 i],[])
def xgf (a b:LA):(Bool×(Int)×(Unit))→LR:=fun p=>(.node p.1 (.leaf .ret [AV.list 3 a,AV.list 3 b,AV.int .i64 p.2.1] []) (.leaf (.exit 0) [AV.list 3 a,AV.list 3 b,.top] []))
abbrev xA1 (a:LA) (H:List Box):=XR Tryz.prog xid [0,1,5] [0,1,4] [] (loopAt Tryz.f30 0) a H
theorem xAA (a b:LA) (i:Int):Enc (encR (xg6 a b) (xgf a b)) (xbK a b i) (xA1 (xg6 a b i).1 (xg6 a b i).2):=by
 refine eV (xfM a b i none (fun s=>some (encR (xg6 a b) (xgf a b) (.inl s))) (fun p=>some (encR (xg6 a b) (xgf a b) (.inr p)))) (by kernel_rfl) ?_;unfold xbK xfM;repeat' first|exact eN|exact eS rfl|apply eB
def xsf:Lp:=lpOf [0,1,5] [0,1,4] [] (pCons (pList 3 pAny) (pCons (pList 3 pAny) (pCons (pInt .i64) pNil))) pNil fun (a,(b,(i,_))) _=>((Iter (xbK a b) (i)).isSome,xgf a b ((Iter (xbK a b) (i)).getD (false,0,())))
theorem xyO:LoopOk Tryz.prog (ITryz.at xid.pin) xid.nt (loopAt Tryz.f30 0) xsf:=xbm fun d f g e=>by
 obtain ⟨a,⟨b,⟨i,_⟩⟩⟩:=d
 obtain ⟨c,rfl⟩:=Prod.mk.inj e
 exact xa6 mxTryz (inv0Ok Tryz.prog _) rfl xzy xvn (xg6 a b) (xgf a b) (fun p=>by simp only [xgf,LR.eval];first|(simp;done)|(repeat' split<;>simp)) (xAA a b) (s:=(i)) (xac c)
def xjU:Env:=xEw.fn 41 0 (lsOf []) (lpsOf [(2,xsf)])
theorem xzT:OrcOk Tryz.prog (ITryz.at 0) xjU:=xzX.fn
theorem xye:LoOk Tryz.prog (ITryz.at xjU.pin) xjU (Tryz.f30.body.getD .skip):=xbe (ls:=[loopAt Tryz.f30 0]) (by kernel_rfl) (lkC xyO lkN)
def xna {T:Type} (a b:LA) (δ:T) (κ:Int→T):T:=br ((Iter (xbK a b) 0).isSome) (br (((Iter (xbK a b) 0).getD (false,0,())).fst) (κ (((Iter (xbK a b) 0).getD (false,0,())).snd.fst)) (br (decide ((↑a.length:Int)<(↑b.length:Int))) (κ ((-1))) (br (decide ((↑a.length:Int)>(↑b.length:Int))) (κ (1)) (κ (0))))) δ
def xfS (a b:LA):Option (Int):=xna a b none some
theorem xDu (a b:LA):Enc (fun (p:Int)=>((AV.int .i64 p):AV)) (xfS a b) (XF Tryz.prog xjU Tryz.f30 (Tryz.f30.body.getD .skip) [AV.list 3 a,AV.list 3 b]):=by
 refine eV (xna a b none (fun (p:Int)=>some ((AV.int .i64 p):AV))) (by kernel_rfl) ?_;unfold xfS xna;repeat' first|exact eN|exact eS rfl|apply eB
def xvJ:LA→Option (Bool×AV):=ocOf (sCons (sList 3 pAny) (sCons (sList 3 pAny) sNil)) fun (a,(b,_))=>((xfS a b).isSome,(AV.int .i64 ((xfS a b).getD 0)))
theorem xDB:OcOk Tryz.prog ITryz 30 (xvJ):=xbg fun f h g=>by
 obtain ⟨a,⟨b,_⟩⟩:=f
 obtain ⟨c,e⟩:=Prod.mk.inj g
 refine xa7 (p:=xjU.pin) (xbd mxTryz (inv0Ok Tryz.prog _) rfl xzT Tryz.func30 rfl (by kernel_rfl) xye ((xDu _ _ _ (xac (d:=0) c)).trans ?_))
 exact congrArg some e
def xHB:Env:=xEw.with 30 xvJ
theorem xF0:OrcOk Tryz.prog ITryz xHB:=xzX.with xDB
def xlU:Env:=xHB.fn 9 0 (lsOf []) (lpsOf [])
theorem xBD:OrcOk Tryz.prog (ITryz.at 0) xlU:=xF0.fn
theorem xzR:LoOk Tryz.prog (ITryz.at xlU.pin) xlU (Tryz.f61.body.getD .skip):=xaD (by kernel_rfl)
def xpA {T:Type} (a b:LA) (δ:T) (κ:Bool→T):T:=br ((xfS a b).isSome) (κ ((xfS a b).getD 0==0)) δ
def xiv (a b:LA):Option (Bool):=xpA a b none some
theorem xG9 (a b:LA):Enc (fun (p:Bool)=>((AV.bool p):AV)) (xiv a b) (XF Tryz.prog xlU Tryz.f61 (Tryz.f61.body.getD .skip) [AV.list 3 a,AV.list 3 b]):=by
 refine eV (xpA a b none (fun (p:Bool)=>some ((AV.bool p):AV))) (by kernel_rfl) ?_;unfold xiv xpA;repeat' first|exact eN|exact eS rfl|apply eB
def xzg:LA→Option (Bool×AV):=ocOf (sCons (sList 3 pAny) (sCons (sList 3 pAny) sNil)) fun (a,(b,_))=>((xiv a b).isSome,(AV.bool ((xiv a b).getD false)))
theorem xGT:OcOk Tryz.prog ITryz 61 (xzg):=xbg fun f h g=>by
 obtain ⟨a,⟨b,_⟩⟩:=f
 obtain ⟨c,e⟩:=Prod.mk.inj g
 refine xa7 (p:=xlU.pin) (xbd mxTryz (inv0Ok Tryz.prog _) rfl xBD Tryz.func61 rfl (by kernel_rfl) xzR ((xG9 _ _ _ (xac (d:=false) c)).trans ?_))
 exact congrArg some e
def xM6:Env:=xHB.with 61 xzg
theorem xMy:OrcOk Tryz.prog ITryz xM6:=xF0.with xGT
abbrev xMd:Env:=xM6
theorem xMh:OrcOk Tryz.prog ITryz xMd:=xMy
abbrev xMT:Env:=xMd
theorem xLv:OrcOk Tryz.prog ITryz xMT:=xMh
abbrev xIG:Env:=xMT
theorem xGp:OrcOk Tryz.prog ITryz xIG:=xLv
def xjO:Env:=xIG.fn 18 0 (lsOf []) (lpsOf [])
theorem xBF:OrcOk Tryz.prog (ITryz.at 0) xjO:=xGp.fn
theorem xzu:LoOk Tryz.prog (ITryz.at xjO.pin) xjO (Tryz.f56.body.getD .skip):=xaD (by kernel_rfl)
def xlw (a b:Int):Bool:=(br (decide (a≥0)) (br (decide (a<b)) ((decide (b≤1099511627776))) ((false))) ((false)))
def xvw (a b:Int):Bool:=true
def xzb {T:Type} (a b:Int) (δ:T) (κ:Bool→T):T:=br (decide (a≥0)) (br (decide (a<b)) (κ (decide (b≤1099511627776))) (κ (false))) (κ (false))
theorem xHh (a b:Int):Pre (xvw a b) (XF Tryz.prog xjO Tryz.f56 (Tryz.f56.body.getD .skip) [AV.agg [AV.int .i64 a,AV.int .i64 b]]) (AV.bool (xlw a b)):=by
 have h:XF Tryz.prog xjO Tryz.f56 (Tryz.f56.body.getD .skip) [AV.agg [AV.int .i64 a,AV.int .i64 b]]=xzb a b none (fun (p:Bool)=>some ((AV.bool p):AV)):=by kernel_rfl
 rw [h];unfold xlw xvw xzb;repeat' (first|exact Pre.none|exact Pre.tt rfl|exact Pre.some rfl|refine Pre.l ?_|refine Pre.r ?_|refine Pre.br (f:=fun (p:Bool)=>((AV.bool p):AV)) ?_ ?_|refine Pre.brt (f:=fun (p:Bool)=>((AV.bool p):AV)) ?_ ?_)
def xzd:LA→Option (Bool×AV):=ocOf (sCons (sAgg (sCons (sEq (pInt .i64)) (sCons (sEq (pInt .i64)) sNil))) sNil) fun ((a,(b,_)),_)=>(true,(AV.bool (xlw a b)))
theorem xHf:OcOk Tryz.prog ITryz 56 (xzd):=xbg fun b g c=>by
 obtain ⟨⟨d,⟨e,_⟩⟩,_⟩:=b
 obtain ⟨f,a⟩:=Prod.mk.inj c
 refine xa7 (p:=xjO.pin) (xbd mxTryz (inv0Ok Tryz.prog _) rfl xBF Tryz.func56 rfl (by kernel_rfl) xzu ((Pre.get (xHh _ _) rfl).trans ?_))
 exact congrArg some a
def xHZ:Env:=xIG.with 56 xzd
theorem xF8:OrcOk Tryz.prog ITryz xHZ:=xGp.with xHf
def xhB:Env:=xHZ.fn 19 0 (lsOf []) (lpsOf [])
theorem xy6:OrcOk Tryz.prog (ITryz.at 0) xhB:=xF8.fn
theorem xv5:LoOk Tryz.prog (ITryz.at xhB.pin) xhB (Tryz.f26.body.getD .skip):=xaD (by kernel_rfl)
def xik (a b t:Int):Bool:=(br (xlw a b) (br (decide (a≤t)) ((decide (t<b))) ((false))) ((false)))
def xsx (a b t:Int):Bool:=true
def xuD {T:Type} (a b t:Int) (δ:T) (κ:Bool→T):T:=br (xlw a b) (br (decide (a≤t)) (κ (decide (t<b))) (κ (false))) (κ (false))
theorem xCU (a b t:Int):Pre (xsx a b t) (XF Tryz.prog xhB Tryz.f26 (Tryz.f26.body.getD .skip) [AV.agg [AV.int .i64 a,AV.int .i64 b],AV.int .i64 t]) (AV.bool (xik a b t)):=by
 have h:XF Tryz.prog xhB Tryz.f26 (Tryz.f26.body.getD .skip) [AV.agg [AV.int .i64 a,AV.int .i64 b],AV.int .i64 t]=xuD a b t none (fun (p:Bool)=>some ((AV.bool p):AV)):=by kernel_rfl
 rw [h];unfold xik xsx xuD;repeat' (first|exact Pre.none|exact Pre.tt rfl|exact Pre.some rfl|refine Pre.l ?_|refine Pre.r ?_|refine Pre.br (f:=fun (p:Bool)=>((AV.bool p):AV)) ?_ ?_|refine Pre.brt (f:=fun (p:Bool)=>((AV.bool p):AV)) ?_ ?_)
def xuZ:LA→Option (Bool×AV):=ocOf (sCons (sAgg (sCons (sEq (pInt .i64)) (sCons (sEq (pInt .i64)) sNil))) (sCons (sEq (pInt .i64)) sNil)) fun ((a,(b,_)),(t,_))=>(true,(AV.bool (xik a b t)))
theorem xDe:OcOk Tryz.prog ITryz 26 (xuZ):=xbg fun b g c=>by
 obtain ⟨⟨d,⟨e,_⟩⟩,⟨t,_⟩⟩:=b
 obtain ⟨f,a⟩:=Prod.mk.inj c
 refine xa7 (p:=xhB.pin) (xbd mxTryz (inv0Ok Tryz.prog _) rfl xy6 Tryz.func26 rfl (by kernel_rfl) xv5 ((Pre.get (xCU _ _ _) rfl).trans ?_))
 exact congrArg some a
def xMK:Env:=xHZ.with 26 xuZ
theorem xLE:OrcOk Tryz.prog ITryz xMK:=xF8.with xDe
abbrev xKa:Env:=xMK
theorem xK2:OrcOk Tryz.prog ITryz xKa:=xLE
abbrev xJS:Env:=xKa
theorem xK6:OrcOk Tryz.prog ITryz xJS:=xK2
abbrev xJ5:Env:=xJS
theorem xK7:OrcOk Tryz.prog ITryz xJ5:=xK6
abbrev xJP:Env:=xJ5
theorem xKr:OrcOk Tryz.prog ITryz xJP:=xK7
abbrev xFW:Env:=xJP
theorem xEH:OrcOk Tryz.prog ITryz xFW:=xKr
def xkv:Env:=xFW.fn 2 0 (lsOf []) (lpsOf [])
theorem xDp:OrcOk Tryz.prog (ITryz.at 0) xkv:=xEH.fn
theorem xzH:LoOk Tryz.prog (ITryz.at xkv.pin) xkv (Tryz.f175.body.getD .skip):=xaD (by kernel_rfl)
def xmy:Int×Int×List UInt8:=((0,0,[]))
def xw2:Bool:=true
def xAt {T:Type} (δ:T) (κ:Int×Int×List UInt8→T):T:=κ (0,0,[])
theorem xIv:Pre (xw2) (XF Tryz.prog xkv Tryz.f175 (Tryz.f175.body.getD .skip) []) (AV.agg [AV.int .i64 xmy.1,AV.int .i64 xmy.2.1,AV.str xmy.2.2]):=by
 have h:XF Tryz.prog xkv Tryz.f175 (Tryz.f175.body.getD .skip) []=xAt none (fun (p:Int×Int×List UInt8)=>some ((AV.agg [AV.int .i64 p.1,AV.int .i64 p.2.1,AV.str p.2.2]):AV)):=by kernel_rfl
 rw [h];unfold xmy xw2 xAt;repeat' (first|exact Pre.none|exact Pre.tt rfl|exact Pre.some rfl|refine Pre.l ?_|refine Pre.r ?_|refine Pre.br (f:=fun (p:Int×Int×List UInt8)=>((AV.agg [AV.int .i64 p.1,AV.int .i64 p.2.1,AV.str p.2.2]):AV)) ?_ ?_|refine Pre.brt (f:=fun (p:Int×Int×List UInt8)=>((AV.agg [AV.int .i64 p.1,AV.int .i64 p.2.1,AV.str p.2.2]):AV)) ?_ ?_)
def xBb:LA→Option (Bool×AV):=ocOf sNil fun _=>(true,(AV.agg [AV.int .i64 xmy.1,AV.int .i64 xmy.2.1,AV.str xmy.2.2]))
theorem xHU:OcOk Tryz.prog ITryz 175 (xBb):=xbg fun d e b=>by
 obtain ⟨c,a⟩:=Prod.mk.inj b
 refine xa7 (p:=xkv.pin) (xbd mxTryz (inv0Ok Tryz.prog _) rfl xDp Tryz.func175 rfl (by kernel_rfl) xzH ((Pre.get (xIv) rfl).trans ?_))
 exact congrArg some a
def xFG:Env:=xFW.with 175 xBb
theorem xDZ:OrcOk Tryz.prog ITryz xFG:=xEH.with xHU
def xpw:Env:=xFG.fn 18 0 (lsOf []) (lpsOf [])
theorem xFC:OrcOk Tryz.prog (ITryz.at 0) xpw:=xDZ.fn
theorem xBQ:LoOk Tryz.prog (ITryz.at xpw.pin) xpw (Tryz.f156.body.getD .skip):=xaD (by kernel_rfl)
def xyN {T:Type} (a:LA) (i:Int) (δ:T) (κ:Int×Int×List UInt8→T):T:=br (decide (i<0)) (κ (0,0,[])) (br (decide (i≥a.length)) (κ (0,0,[])) (br (decide (0≤i)&&decide (i<a.length)) (br (decide (i.toNat<a.length)&&((a.getD i.toNat .top).cells.length==3&&hasShs [Sh.int .i64,Sh.int .i64,Sh.str] (a.getD i.toNat .top).cells 0)) (κ (((a.getD i.toNat .top).cells.getD 0 .top).toInt,((a.getD i.toNat .top).cells.getD 1 .top).toInt,((a.getD i.toNat .top).cells.getD 2 .top).toStr)) δ) δ))
def xlo (a:LA) (i:Int):Option (Int×Int×List UInt8):=xyN a i none some
theorem xKD (a:LA) (i:Int):Enc (fun (p:Int×Int×List UInt8)=>((AV.agg [AV.int .i64 p.1,AV.int .i64 p.2.1,AV.str p.2.2]):AV)) (xlo a i) (XF Tryz.prog xpw Tryz.f156 (Tryz.f156.body.getD .skip) [AV.list 3 a,AV.int .i64 i]):=by
 refine eV (xyN a i none (fun (p:Int×Int×List UInt8)=>some ((AV.agg [AV.int .i64 p.1,AV.int .i64 p.2.1,AV.str p.2.2]):AV))) (by kernel_rfl) ?_;unfold xlo xyN;repeat' first|exact eN|exact eS rfl|apply eB
def xDQ:LA→Option (Bool×AV):=ocOf (sCons (sList 3 pAny) (sCons (sEq (pInt .i64)) sNil)) fun (a,(i,_))=>((xlo a i).isSome,(AV.agg [AV.int .i64 ((xlo a i).getD (0,0,[])).1,AV.int .i64 ((xlo a i).getD (0,0,[])).2.1,AV.str ((xlo a i).getD (0,0,[])).2.2]))
theorem xLg:OcOk Tryz.prog ITryz 156 (xDQ):=xbg fun c g e=>by
 obtain ⟨f,⟨i,_⟩⟩:=c
 obtain ⟨a,b⟩:=Prod.mk.inj e
 refine xa7 (p:=xpw.pin) (xbd mxTryz (inv0Ok Tryz.prog _) rfl xFC Tryz.func156 rfl (by kernel_rfl) xBQ ((xKD _ _ _ (xac (d:=(0,0,[])) a)).trans ?_))
 exact congrArg some b
def xBm:Env:=xFG.with 156 xDQ
theorem xyF:OrcOk Tryz.prog ITryz xBm:=xDZ.with xLg
def xi3:Env:=xBm.fn 44 0 (lsOf []) (lpsOf [])
theorem xAo:OrcOk Tryz.prog (ITryz.at 0) xi3:=xyF.fn
theorem xve:LoOk Tryz.prog (ITryz.at xi3.pin) xi3 (loopAt Tryz.f136 0):=xaD (by kernel_rfl)
def xns (o:LA) (i:Int):=decide (0≤i)&&decide (i<o.length)
def xty (b o:LA) (i:Int):=(xlo b ((o.getD i.toNat .top).cells.getD 0 .top).toInt).getD (0,0,[])
def xth (a o:LA) (i:Int):=(xlo a ((o.getD i.toNat .top).cells.getD 0 .top).toInt).getD (0,0,[])
def xsV (b o:LA) (i:Int):=(xty b o i).snd
def xs1 (a o:LA) (i:Int):=(xth a o i).snd
def xsQ (a b o:LA) (i:Int):=xhM (xth a o i).fst (xs1 a o i).fst (xs1 a o i).snd (xty b o i).fst (xsV b o i).fst (xsV b o i).snd
def xlH {T:Type} (a b o:LA) (i:Int) (δ:T) (κl:(Int)→T) (κr:(Bool×(Bool)×(Unit))→T):T:=br (decide (i<o.length)) (br (xns o i) (br (decide (i.toNat<o.length)&&hasSh1 (Sh.int .i64) ((o.getD i.toNat .top).cells.getD 0 .top)) (br ((xlo a ((o.getD i.toNat .top).cells.getD 0 .top).toInt).isSome) (br (xns o i) (br (decide (i.toNat<o.length)&&hasSh1 (Sh.int .i64) ((o.getD i.toNat .top).cells.getD 0 .top)) (br ((xlo b ((o.getD i.toNat .top).cells.getD 0 .top).toInt).isSome) (br (xsQ a b o i != 0) (br (xns o i) (br (decide (i.toNat<o.length)&&hasSh1 Sh.bool ((o.getD i.toNat .top).cells.getD 1 .top)) (κr (true,(!decide (xsQ a b o i<0)==((o.getD i.toNat .top).cells.getD 1 .top).toBool),())) δ) δ) (κl (i64.wrap (i+1)))) δ) δ) δ) δ) δ) δ) (κr (false,false,()))
def xdw (a b o:LA):(Int)→Option ((Int)⊕(Bool×(Bool)×(Unit))):=fun (i)=>xlH a b o i none (fun s=>some (.inl s)) (fun p=>some (.inr p))
def xhy (a b o:LA):(Int)→LA×List Box:=fun (i)=>([AV.list 3 a,AV.list 3 b,AV.list 2 o,AV.int .i64 i],[])
def xgH (a b o:LA):(Bool×(Bool)×(Unit))→LR:=fun p=>(.node p.1 (.leaf .ret [AV.list 3 a,AV.list 3 b,AV.bool p.2.1] []) (.leaf (.exit 0) [AV.list 3 a,AV.list 3 b,.top] []))
abbrev xBW (a:LA) (H:List Box):=XR Tryz.prog xi3 [0,1,2,7] [0,1,6] [] (loopAt Tryz.f136 0) a H
theorem xBM (a b o:LA) (i:Int):Enc (encR (xhy a b o) (xgH a b o)) (xdw a b o i) (xBW (xhy a b o i).1 (xhy a b o i).2):=by
 refine eV (xlH a b o i none (fun s=>some (encR (xhy a b o) (xgH a b o) (.inl s))) (fun p=>some (encR (xhy a b o) (xgH a b o) (.inr p)))) (by kernel_rfl) ?_;unfold xdw xlH;repeat' first|exact eN|exact eS rfl|apply eB
def xtm:Lp:=lpOf [0,1,2,7] [0,1,6] [] (pCons (pList 3 pAny) (pCons (pList 3 pAny) (pCons (pList 2 pAny) (pCons (pInt .i64) pNil)))) pNil fun (a,(b,(o,(i,_)))) _=>((Iter (xdw a b o) (i)).isSome,xgH a b o ((Iter (xdw a b o) (i)).getD (false,false,())))
theorem xzw:LoopOk Tryz.prog (ITryz.at xi3.pin) xi3.nt (loopAt Tryz.f136 0) xtm:=xbm fun d f g e=>by
 obtain ⟨a,⟨b,⟨o,⟨i,_⟩⟩⟩⟩:=d
 obtain ⟨c,rfl⟩:=Prod.mk.inj e
 exact xa6 mxTryz (inv0Ok Tryz.prog _) rfl xAo xve (xhy a b o) (xgH a b o) (fun p=>by simp only [xgH,LR.eval];first|(simp;done)|(repeat' split<;>simp)) (xBM a b o) (s:=(i)) (xac c)
def xkN:Env:=xBm.fn 44 0 (lsOf []) (lpsOf [(2,xtm)])
theorem xAi:OrcOk Tryz.prog (ITryz.at 0) xkN:=xyF.fn
theorem xw0:LoOk Tryz.prog (ITryz.at xkN.pin) xkN (Tryz.f136.body.getD .skip):=xbe (ls:=[loopAt Tryz.f136 0]) (by kernel_rfl) (lkC xzw lkN)
def xoL {T:Type} (a b o:LA) (δ:T) (κ:Bool→T):T:=br ((Iter (xdw a b o) 0).isSome) (br (((Iter (xdw a b o) 0).getD (false,false,())).fst) (κ (((Iter (xdw a b o) 0).getD (false,false,())).snd.fst)) (br ((xfS a b).isSome) (κ (decide ((xfS a b).getD 0<0))) δ)) δ
def xgO (a b o:LA):Option (Bool):=xoL a b o none some
theorem xFj (a b o:LA):Enc (fun (p:Bool)=>((AV.bool p):AV)) (xgO a b o) (XF Tryz.prog xkN Tryz.f136 (Tryz.f136.body.getD .skip) [AV.list 3 a,AV.list 3 b,AV.list 2 o]):=by
 refine eV (xoL a b o none (fun (p:Bool)=>some ((AV.bool p):AV))) (by kernel_rfl) ?_;unfold xgO xoL;repeat' first|exact eN|exact eS rfl|apply eB
def xwW:LA→Option (Bool×AV):=ocOf (sCons (sList 3 pAny) (sCons (sList 3 pAny) (sCons (sList 2 pAny) sNil))) fun (a,(b,(o,_)))=>((xgO a b o).isSome,(AV.bool ((xgO a b o).getD false)))
theorem xFp:OcOk Tryz.prog ITryz 136 (xwW):=xbg fun f h g=>by
 obtain ⟨a,⟨b,⟨o,_⟩⟩⟩:=f
 obtain ⟨c,e⟩:=Prod.mk.inj g
 refine xa7 (p:=xkN.pin) (xbd mxTryz (inv0Ok Tryz.prog _) rfl xAi Tryz.func136 rfl (by kernel_rfl) xw0 ((xFj _ _ _ _ (xac (d:=false) c)).trans ?_))
 exact congrArg some e
def xBn:Env:=xBm.with 136 xwW
theorem xy8:OrcOk Tryz.prog ITryz xBn:=xyF.with xFp
def xiY:Env:=xBn.fn 62 0 (lsOf []) (lpsOf [])
theorem xAR:OrcOk Tryz.prog (ITryz.at 0) xiY:=xy8.fn
theorem xvm:LoOk Tryz.prog (ITryz.at xiY.pin) xiY (loopAt Tryz.f110 0):=xaD (by kernel_rfl)
def xcW (a:LA) (i:Int):=decide (i.toNat<a.length)&&hasSh1 (Sh.list 3) ((a.getD i.toNat .top).cells.getD 0 .top)
def xcQ (b:LA) (k:Int):=decide (k.toNat<b.length)&&hasSh1 (Sh.list 3) ((b.getD k.toNat .top).cells.getD 0 .top)
def xcS (b:LA) (k:Int):=decide (0≤k)&&decide (k<b.length)
def xcP (a:LA) (i:Int):=decide (0≤i)&&decide (i<a.length)
def xff {T:Type} (a b o:LA) (c:Nat) (i k:Int) (d:LA) (δ:T) (κl:(Nat×Int×Int×LA)→T) (κr:(Nat×LA)→T):T:=br (decide (i<a.length)) (br (i==(↑a.length:Int)) (br (xcS b k) (br (xcQ b k) (br (c==d.length&&(decide ((c+1)*24≤140737488355328)&&decide (c+1≤4611686018427387904))) (κl (c+1,i,i64.wrap (k+1),d++[AV.list 3 ((b.getD k.toNat .top).cells.getD 0 .top).toList])) δ) δ) δ) (br (decide (k<b.length)) (br (xcS b k) (br (xcQ b k) (br (xcP a i) (br (xcW a i) (br ((xgO ((b.getD k.toNat .top).cells.getD 0 .top).toList ((a.getD i.toNat .top).cells.getD 0 .top).toList o).isSome) (br ((xgO ((b.getD k.toNat .top).cells.getD 0 .top).toList ((a.getD i.toNat .top).cells.getD 0 .top).toList o).getD false) (br (xcS b k) (br (xcQ b k) (br (c==d.length&&(decide ((c+1)*24≤140737488355328)&&decide (c+1≤4611686018427387904))) (κl (c+1,i,i64.wrap (k+1),d++[AV.list 3 ((b.getD k.toNat .top).cells.getD 0 .top).toList])) δ) δ) δ) (br (xcP a i) (br (xcW a i) (br (c==d.length&&(decide ((c+1)*24≤140737488355328)&&decide (c+1≤4611686018427387904))) (κl (c+1,i64.wrap (i+1),k,d++[AV.list 3 ((a.getD i.toNat .top).cells.getD 0 .top).toList])) δ) δ) δ)) δ) δ) δ) δ) δ) (br (xcP a i) (br (xcW a i) (br (c==d.length&&(decide ((c+1)*24≤140737488355328)&&decide (c+1≤4611686018427387904))) (κl (c+1,i64.wrap (i+1),k,d++[AV.list 3 ((a.getD i.toNat .top).cells.getD 0 .top).toList])) δ) δ) δ))) (br (decide (k<b.length)) (br (i==(↑a.length:Int)) (br (xcS b k) (br (xcQ b k) (br (c==d.length&&(decide ((c+1)*24≤140737488355328)&&decide (c+1≤4611686018427387904))) (κl (c+1,i,i64.wrap (k+1),d++[AV.list 3 ((b.getD k.toNat .top).cells.getD 0 .top).toList])) δ) δ) δ) (br (decide (k<b.length)) (br (xcS b k) (br (xcQ b k) (br (xcP a i) (br (xcW a i) (br ((xgO ((b.getD k.toNat .top).cells.getD 0 .top).toList ((a.getD i.toNat .top).cells.getD 0 .top).toList o).isSome) (br ((xgO ((b.getD k.toNat .top).cells.getD 0 .top).toList ((a.getD i.toNat .top).cells.getD 0 .top).toList o).getD false) (br (xcS b k) (br (xcQ b k) (br (c==d.length&&(decide ((c+1)*24≤140737488355328)&&decide (c+1≤4611686018427387904))) (κl (c+1,i,i64.wrap (k+1),d++[AV.list 3 ((b.getD k.toNat .top).cells.getD 0 .top).toList])) δ) δ) δ) (br (xcP a i) (br (xcW a i) (br (c==d.length&&(decide ((c+1)*24≤140737488355328)&&decide (c+1≤4611686018427387904))) (κl (c+1,i64.wrap (i+1),k,d++[AV.list 3 ((a.getD i.toNat .top).cells.getD 0 .top).toList])) δ) δ) δ)) δ) δ) δ) δ) δ) (br (xcP a i) (br (xcW a i) (br (c==d.length&&(decide ((c+1)*24≤140737488355328)&&decide (c+1≤4611686018427387904))) (κl (c+1,i64.wrap (i+1),k,d++[AV.list 3 ((a.getD i.toNat .top).cells.getD 0 .top).toList])) δ) δ) δ))) (κr (c,d)))
def xbU (a b o:LA):(Nat×Int×Int×LA)→Option ((Nat×Int×Int×LA)⊕(Nat×LA)):=fun (d,i,k,c)=>xff a b o d i k c none (fun s=>some (.inl s)) (fun p=>some (.inr p))
def xhH (a b o:LA):(Nat×Int×Int×LA)→LA×List Box:=fun (d,i,k,c)=>([AV.list 1 a,AV.list 1 b,AV.list 2 o,AV.osl 0 0 0 d,AV.int .i64 i,AV.int .i64 k],[⟨0,1,40,c,false,true⟩])
def xgw (a b o:LA):(Nat×LA)→LR:=fun p=>(.leaf (.exit 0) [AV.osl 0 0 0 p.1] [⟨0,1,40,p.2,false,true⟩])
abbrev xBZ (a:LA) (H:List Box):=XR Tryz.prog xiY [0,1,2,7,8,9] [7] [(7,1,40)] (loopAt Tryz.f110 0) a H
theorem xBC (a b o:LA) (s:Nat×Int×Int×LA):Enc (encR (xhH a b o) (xgw a b o)) (xbU a b o s) (xBZ (xhH a b o s).1 (xhH a b o s).2):=by
 obtain ⟨d,i,k,c⟩:=s
 refine eV (xff a b o d i k c none (fun s=>some (encR (xhH a b o) (xgw a b o) (.inl s))) (fun p=>some (encR (xhH a b o) (xgw a b o) (.inr p)))) (by kernel_rfl) ?_;unfold xbU xff;repeat' first|exact eN|exact eS rfl|apply eB
def xsS:Lp:=lpOf [0,1,2,7,8,9] [7] [(7,1,40)] (pCons (pList 1 pAny) (pCons (pList 1 pAny) (pCons (pList 2 pAny) (pCons (pOsl 0 0 0) (pCons (pInt .i64) (pCons (pInt .i64) pNil)))))) (pCons (pBox 0 1 40 false true pAny) pNil) fun (a,(b,(o,(d,(i,(k,_)))))) (c,_)=>((Iter (xbU a b o) (d,i,k,c)).isSome,xgw a b o ((Iter (xbU a b o) (d,i,k,c)).getD (0,[])))
theorem xzP:LoopOk Tryz.prog (ITryz.at xiY.pin) xiY.nt (loopAt Tryz.f110 0) xsS:=xbm fun f g j h=>by
 obtain ⟨a,⟨b,⟨o,⟨d,⟨i,⟨k,_⟩⟩⟩⟩⟩⟩:=f
 obtain ⟨c,_⟩:=g
 obtain ⟨e,rfl⟩:=Prod.mk.inj h
 exact xa6 mxTryz (inv0Ok Tryz.prog _) rfl xAR xvm (xhH a b o) (xgw a b o) (fun p=>by simp only [xgw,LR.eval];first|(simp;done)|(repeat' split<;>simp)) (xBC a b o) (s:=(d,i,k,c)) (xac e)
def xkI:Env:=xBn.fn 62 0 (lsOf []) (lpsOf [(3,xsS)])
theorem xA3:OrcOk Tryz.prog (ITryz.at 0) xkI:=xy8.fn
theorem xyj:LoOk Tryz.prog (ITryz.at xkI.pin) xkI (Tryz.f110.body.getD .skip):=xbe (ls:=[loopAt Tryz.f110 0]) (by kernel_rfl) (lkC xzP lkN)
def xra (a b o:LA):=Iter (xbU a b o) (0,0,0,[])
def xrg (a b o:LA):=(xra a b o).getD (0,[])
def xqx (a b o:LA):=(xrg a b o).snd
def xrC (a b o:LA):=(xrg a b o).fst
def xoh {T:Type} (a b o:LA) (δ:T) (κ:LA→T):T:=br ((xra a b o).isSome) (br (decide (0+xrC a b o≤(xqx a b o).length)&&true) (κ (List.take (xrC a b o) (List.drop 0 (xqx a b o)))) δ) δ
def xjY (a b o:LA):Option (LA):=xoh a b o none some
theorem xFg (a b o:LA):Enc (fun (p:LA)=>((AV.list 1 p):AV)) (xjY a b o) (XF Tryz.prog xkI Tryz.f110 (Tryz.f110.body.getD .skip) [AV.list 1 a,AV.list 1 b,AV.list 2 o]):=by
 refine eV (xoh a b o none (fun (p:LA)=>some ((AV.list 1 p):AV))) (by kernel_rfl) ?_;unfold xjY xoh;repeat' first|exact eN|exact eS rfl|apply eB
def xyi:LA→Option (Bool×AV):=ocOf (sCons (sList 1 pAny) (sCons (sList 1 pAny) (sCons (sList 2 pAny) sNil))) fun (a,(b,(o,_)))=>((xjY a b o).isSome,(AV.list 1 ((xjY a b o).getD [])))
theorem xFu:OcOk Tryz.prog ITryz 110 (xyi):=xbg fun f h g=>by
 obtain ⟨a,⟨b,⟨o,_⟩⟩⟩:=f
 obtain ⟨c,e⟩:=Prod.mk.inj g
 refine xa7 (p:=xkI.pin) (xbd mxTryz (inv0Ok Tryz.prog _) rfl xA3 Tryz.func110 rfl (by kernel_rfl) xyj ((xFg _ _ _ _ (xac (d:=[]) c)).trans ?_))
 exact congrArg some e
def xFt:Env:=xBn.with 110 xyi
theorem xDE:OrcOk Tryz.prog ITryz xFt:=xy8.with xFu
def xpV (R:LA→LA→Option (LA)):LA→Option (Bool×AV):=ocOf (sCons (sList 1 pAny) (sCons (sList 2 pAny) sNil)) fun (l,(o,_))=>((R l o).isSome,AV.list 1 ((R l o).getD []))
def xl5 (R:LA→LA→Option (LA)):Env:=(xFt.with 86 (xpV R)).fn 34 0 (lsOf []) (lpsOf [])
def xoZ (R:LA→LA→Option (LA)):Prop:=OcOk Tryz.prog ITryz 86 (xpV R)
theorem xBR (R:LA→LA→Option (LA)) (a:xoZ R):OrcOk Tryz.prog (ITryz.at 0) (xl5 R):=(xDE.with a).fn
theorem xzO (R:LA→LA→Option (LA)):LoOk Tryz.prog (ITryz.at (xl5 R).pin) (xl5 R) (Tryz.f86.body.getD .skip):=xaD (by kernel_rfl)
def xlT (l:LA):=decide (0≤i64.wrap ((↑l.length:Int).tdiv 2))&&decide (i64.wrap ((↑l.length:Int).tdiv 2)≤(↑l.length:Int))
def xip (l:LA):Nat:=0+((l.getD 0 .top).cells.getD 0 .top).toList.length
def xl8 (R:LA→LA→Option (LA)) (l o:LA):Option (LA):=R (List.take (l.length - (i64.wrap ((↑l.length:Int).tdiv 2)).toNat) (List.drop (i64.wrap ((↑l.length:Int).tdiv 2)).toNat l)) o
def xl6 (R:LA→LA→Option (LA)) (l o:LA):Option (LA):=xjY ((R (List.take ((i64.wrap ((↑l.length:Int).tdiv 2)).toNat - 0) (List.drop 0 l)) o).getD []) ((xl8 R l o).getD []) o
def xhQ {T:Type} (R:LA→LA→Option (LA)) (l o:LA) (δ:T) (κ:LA→T):T:=br ((↑l.length:Int)==0) (κ ([])) (br ((↑l.length:Int)==1) (br (decide (0<(↑l.length:Int))) (br (decide (0<l.length)&&hasSh1 (Sh.list 3) ((l.getD 0 .top).cells.getD 0 .top)) (br (decide (xip l*32≤140737488355328)&&decide (xip l≤4611686018427387904)) (br (decide (0+xip l≤([]++((l.getD 0 .top).cells.getD 0 .top).toList).length)&&true&&true&&true) (κ ([AV.list 3 (List.take (xip l) (List.drop 0 ([]++((l.getD 0 .top).cells.getD 0 .top).toList)))])) δ) δ) δ) δ) (br (xlT l&&true) (br ((R (List.take ((i64.wrap ((↑l.length:Int).tdiv 2)).toNat - 0) (List.drop 0 l)) o).isSome) (br (xlT l) (br ((xl8 R l o).isSome) (br ((xl6 R l o).isSome) (κ ((xl6 R l o).getD [])) δ) δ) δ) δ) δ))
def xeO (R:LA→LA→Option (LA)) (l o:LA):Option (LA):=xhQ R l o none some
theorem xGW (R:LA→LA→Option (LA)) (l o:LA):Enc (fun (p:LA)=>((AV.list 1 p):AV)) (xeO R l o) (XF Tryz.prog (xl5 R) Tryz.f86 (Tryz.f86.body.getD .skip) [AV.list 1 l,AV.list 2 o]):=by
 refine eV (xhQ R l o none (fun (p:LA)=>some ((AV.list 1 p):AV))) (by kernel_rfl) ?_;unfold xeO xhQ;repeat' first|exact eN|exact eS rfl|apply eB
def xGZ (R:LA→LA→Option (LA)):LA→Option (Bool×AV):=ocOf (sCons (sList 1 pAny) (sCons (sList 2 pAny) sNil)) fun (l,(o,_))=>((xeO R l o).isSome,(AV.list 1 ((xeO R l o).getD [])))
theorem xG5 (R:LA→LA→Option (LA)) (c:xoZ R):OcOk Tryz.prog ITryz 86 (xGZ R):=xbg fun e g f=>by
 obtain ⟨l,⟨o,_⟩⟩:=e
 obtain ⟨a,b⟩:=Prod.mk.inj f
 refine xa7 (p:=(xl5 R).pin) (xbd mxTryz (inv0Ok Tryz.prog _) rfl (xBR R c) Tryz.func86 rfl (by kernel_rfl) (xzO R) ((xGW R _ _ _ (xac (d:=[]) a)).trans ?_))
 exact congrArg some b
def xeG:Nat→LA→LA→Option (LA)
 | 0=>fun _ _=>none
 | fu_+1=>fun l o=>xeO (xeG fu_) l o
theorem xuN:∀ n,xoZ (xeG n)
 | 0=>xbg fun _ _ h=>absurd (Prod.mk.inj h).1 Bool.false_ne_true
 | fu_+1=>fun a r h=>xG5 (xeG fu_) (xuN fu_) a r h
def xFI:Env:=xFt.with 86 (xpV (xeG 1000))
theorem xDC:OrcOk Tryz.prog ITryz xFI:=xDE.with (xuN _)
def xmM:Env:=xFI.fn 5 0 (lsOf []) (lpsOf [])
theorem xC5:OrcOk Tryz.prog (ITryz.at 0) xmM:=xDC.fn
theorem xAZ:LoOk Tryz.prog (ITryz.at xmM.pin) xmM (Tryz.f60.body.getD .skip):=xaD (by kernel_rfl)
def xqP {T:Type} (l:LA) (δ:T) (κ:LA→T):T:=br ((xeG 1000 l []).isSome) (κ ((xeG 1000 l []).getD [])) δ
def xit (l:LA):Option (LA):=xqP l none some
theorem xHT (l:LA):Enc (fun (p:LA)=>((AV.list 1 p):AV)) (xit l) (XF Tryz.prog xmM Tryz.f60 (Tryz.f60.body.getD .skip) [AV.list 1 l]):=by
 refine eV (xqP l none (fun (p:LA)=>some ((AV.list 1 p):AV))) (by kernel_rfl) ?_;unfold xit xqP;repeat' first|exact eN|exact eS rfl|apply eB
def xAr:LA→Option (Bool×AV):=ocOf (sCons (sList 1 pAny) sNil) fun (l,_)=>((xit l).isSome,(AV.list 1 ((xit l).getD [])))
theorem xH2:OcOk Tryz.prog ITryz 60 (xAr):=xbg fun c f e=>by
 obtain ⟨l,_⟩:=c
 obtain ⟨a,b⟩:=Prod.mk.inj e
 refine xa7 (p:=xmM.pin) (xbd mxTryz (inv0Ok Tryz.prog _) rfl xC5 Tryz.func60 rfl (by kernel_rfl) xAZ ((xHT _ _ (xac (d:=[]) a)).trans ?_))
 exact congrArg some b
def xBl:Env:=xFI.with 60 xAr
theorem xyD:OrcOk Tryz.prog ITryz xBl:=xDC.with xH2
def xhw:Env:=xBl.fn 38 0 (lsOf []) (lpsOf [])
theorem xyw:OrcOk Tryz.prog (ITryz.at 0) xhw:=xyD.fn
theorem xuQ:LoOk Tryz.prog (ITryz.at xhw.pin) xhw (loopAt Tryz.f29 0):=xaD (by kernel_rfl)
def xhi (a:LA) (i:Int):=decide (i.toNat<a.length)&&hasSh1 (Sh.list 3) ((a.getD i.toNat .top).cells.getD 0 .top)
def xhq (a:LA) (i:Int):=decide (0≤i)&&decide (i<a.length)
def xjI (a:LA) (i:Int):=xiv ((a.getD (i64.wrap (i - 1)).toNat .top).cells.getD 0 .top).toList ((a.getD i.toNat .top).cells.getD 0 .top).toList
def xgG {T:Type} (b:LA) (a:Nat) (i:Int) (c:LA) (δ:T) (κl:(Nat×Int×LA)→T) (κr:(Nat×LA)→T):T:=br (decide (i<b.length)) (br (i==0) (br (xhq b i) (br (xhi b i) (br (a==c.length&&(decide ((a+1)*24≤140737488355328)&&decide (a+1≤4611686018427387904))) (κl (a+1,i64.wrap (i+1),c++[AV.list 3 ((b.getD i.toNat .top).cells.getD 0 .top).toList])) δ) δ) δ) (br (decide (0≤i64.wrap (i - 1))&&decide (i64.wrap (i - 1)<(↑b.length:Int))) (br (decide ((i64.wrap (i - 1)).toNat<b.length)&&hasSh1 (Sh.list 3) ((b.getD (i64.wrap (i - 1)).toNat .top).cells.getD 0 .top)) (br (xhq b i) (br (xhi b i) (br ((xjI b i).isSome) (br (!(xjI b i).getD false) (br (xhq b i) (br (xhi b i) (br (a==c.length&&(decide ((a+1)*24≤140737488355328)&&decide (a+1≤4611686018427387904))) (κl (a+1,i64.wrap (i+1),c++[AV.list 3 ((b.getD i.toNat .top).cells.getD 0 .top).toList])) δ) δ) δ) (κl (a,i64.wrap (i+1),c))) δ) δ) δ) δ) δ)) (κr (a,c))
def xb5 (c:LA):(Nat×Int×LA)→Option ((Nat×Int×LA)⊕(Nat×LA)):=fun (b,i,a)=>xgG c b i a none (fun s=>some (.inl s)) (fun p=>some (.inr p))
def xgC (c:LA):(Nat×Int×LA)→LA×List Box:=fun (b,i,a)=>([AV.list 1 c,AV.osl 0 0 0 b,AV.int .i64 i],[⟨0,1,40,a,false,true⟩])
def xfC (a:LA):(Nat×LA)→LR:=fun p=>(.leaf (.exit 0) [AV.osl 0 0 0 p.1] [⟨0,1,40,p.2,false,true⟩])
abbrev xzC (a:LA) (H:List Box):=XR Tryz.prog xhw [3,4,5] [4] [(4,1,40)] (loopAt Tryz.f29 0) a H
theorem xzK (a:LA) (s:Nat×Int×LA):Enc (encR (xgC a) (xfC a)) (xb5 a s) (xzC (xgC a s).1 (xgC a s).2):=by
 obtain ⟨c,i,b⟩:=s
 refine eV (xgG a c i b none (fun s=>some (encR (xgC a) (xfC a) (.inl s))) (fun p=>some (encR (xgC a) (xfC a) (.inr p)))) (by kernel_rfl) ?_;unfold xb5 xgG;repeat' first|exact eN|exact eS rfl|apply eB
def xq3:Lp:=lpOf [3,4,5] [4] [(4,1,40)] (pCons (pList 1 pAny) (pCons (pOsl 0 0 0) (pCons (pInt .i64) pNil))) (pCons (pBox 0 1 40 false true pAny) pNil) fun (c,(b,(i,_))) (a,_)=>((Iter (xb5 c) (b,i,a)).isSome,xfC c ((Iter (xb5 c) (b,i,a)).getD (0,[])))
theorem xyp:LoopOk Tryz.prog (ITryz.at xhw.pin) xhw.nt (loopAt Tryz.f29 0) xq3:=xbm fun e f h g=>by
 obtain ⟨a,⟨c,⟨i,_⟩⟩⟩:=e
 obtain ⟨b,_⟩:=f
 obtain ⟨d,rfl⟩:=Prod.mk.inj g
 exact xa6 mxTryz (inv0Ok Tryz.prog _) rfl xyw xuQ (xgC a) (xfC a) (fun p=>by simp only [xfC,LR.eval];first|(simp;done)|(repeat' split<;>simp)) (xzK a) (s:=(c,i,b)) (xac d)
def xji:Env:=xBl.fn 38 0 (lsOf []) (lpsOf [(4,xq3)])
theorem xy5:OrcOk Tryz.prog (ITryz.at 0) xji:=xyD.fn
theorem xwn:LoOk Tryz.prog (ITryz.at xji.pin) xji (Tryz.f29.body.getD .skip):=xbe (ls:=[loopAt Tryz.f29 0]) (by kernel_rfl) (lkC xyp lkN)
def xo1 (l:LA):=(Iter (xb5 ((xit l).getD [])) (0,0,[])).getD (0,[])
def xpa (l:LA):=(xo1 l).snd
def xoR (l:LA):=(xo1 l).fst
def xmp {T:Type} (l:LA) (δ:T) (κ:LA→T):T:=br ((xit l).isSome) (br ((Iter (xb5 ((xit l).getD [])) (0,0,[])).isSome) (br (decide (0+xoR l≤(xpa l).length)&&true) (κ (List.take (xoR l) (List.drop 0 (xpa l)))) δ) δ) δ
def xek (l:LA):Option (LA):=xmp l none some
theorem xC1 (l:LA):Enc (fun (p:LA)=>((AV.list 1 p):AV)) (xek l) (XF Tryz.prog xji Tryz.f29 (Tryz.f29.body.getD .skip) [AV.list 1 l]):=by
 refine eV (xmp l none (fun (p:LA)=>some ((AV.list 1 p):AV))) (by kernel_rfl) ?_;unfold xek xmp;repeat' first|exact eN|exact eS rfl|apply eB
def xvb:LA→Option (Bool×AV):=ocOf (sCons (sList 1 pAny) sNil) fun (l,_)=>((xek l).isSome,(AV.list 1 ((xek l).getD [])))
theorem xCJ:OcOk Tryz.prog ITryz 29 (xvb):=xbg fun c f e=>by
 obtain ⟨l,_⟩:=c
 obtain ⟨a,b⟩:=Prod.mk.inj e
 refine xa7 (p:=xji.pin) (xbd mxTryz (inv0Ok Tryz.prog _) rfl xy5 Tryz.func29 rfl (by kernel_rfl) xwn ((xC1 _ _ (xac (d:=[]) a)).trans ?_))
 exact congrArg some b
def xJT:Env:=xBl.with 29 xvb
theorem xKo:OrcOk Tryz.prog ITryz xJT:=xyD.with xCJ
abbrev xJG:Env:=xJT
theorem xKg:OrcOk Tryz.prog ITryz xJG:=xKo
abbrev EKR1:Env:=xJG
theorem xPc:OrcOk Tryz.prog ITryz EKR1:=xKg
end Go.Sim.M
end
noncomputable section
set_option maxRecDepth 100000
namespace Go.Sim.M
open Go.IntKind (i64 u64 u8)
open Go.RowKit Go.Proofs
abbrev xOF:Env:=EKR1
theorem xNG:OrcOk Tryz.prog ITryz xOF:=xPc
abbrev EKJ:Env:=xOF
theorem xQo:OrcOk Tryz.prog ITryz EKJ:=xNG
end Go.Sim.M
end
noncomputable section
set_option maxRecDepth 100000
namespace Go.Sim.M
open Go.IntKind (i64 u64 u8)
open Go.RowKit Go.Proofs
abbrev xMr:Env:=EKJ
theorem xNr:OrcOk Tryz.prog ITryz xMr:=xQo
abbrev xLN:Env:=xMr
theorem xNg:OrcOk Tryz.prog ITryz xLN:=xNr
def xsO {T:Type} (k:Nat) (b n:Int) (a:LA) (δ:T) (κ:Bool×(Nat×LA)×(Nat×LA)→T):T:=br (decide ((↑k:Int)>0)) (br (decide (0≤i64.wrap ((↑k:Int) - 1))&&decide (i64.wrap ((↑k:Int) - 1)<(↑k:Int))) (br (decide (0+(i64.wrap ((↑k:Int) - 1)).toNat<a.length)&&hasSh1 (Sh.int .i64) ((a.getD (0+(i64.wrap ((↑k:Int) - 1)).toNat) .top).cells.getD 1 .top)) (br (((a.getD (0+(i64.wrap ((↑k:Int) - 1)).toNat) .top).cells.getD 1 .top).toInt==n) (κ (true,(k,a),(0,[]))) (br (k==a.length&&(decide ((k+1)*16≤140737488355328)&&decide (k+1≤4611686018427387904))) (κ (false,(0,[]),(k+1,a++[AV.agg [AV.int .i64 b,AV.int .i64 n]]))) δ)) δ) δ) (br (k==a.length&&(decide ((k+1)*16≤140737488355328)&&decide (k+1≤4611686018427387904))) (κ (false,(0,[]),(k+1,a++[AV.agg [AV.int .i64 b,AV.int .i64 n]]))) δ)
def xvq (k:Nat) (a n:Int) (b:LA):Option (Bool×(Nat×LA)×(Nat×LA)):=xsO k a n b none some
abbrev xNv:Env:=xLN
theorem xNi:OrcOk Tryz.prog ITryz xNv:=xNg
abbrev xLA:Env:=xNv
theorem xLL:OrcOk Tryz.prog ITryz xLA:=xNi
abbrev xL3:Env:=xLA
theorem xMN:OrcOk Tryz.prog ITryz xL3:=xLL
abbrev xM9:Env:=xL3
theorem xMa:OrcOk Tryz.prog ITryz xM9:=xMN
abbrev xMF:Env:=xM9
theorem xMA:OrcOk Tryz.prog ITryz xMF:=xMa
abbrev xLs:Env:=xMF
theorem xM8:OrcOk Tryz.prog ITryz xLs:=xMA
abbrev xLM:Env:=xLs
theorem xLq:OrcOk Tryz.prog ITryz xLM:=xM8
abbrev EKR2:Env:=xLM
theorem xPT:OrcOk Tryz.prog ITryz EKR2:=xLq
end Go.Sim.M
end
noncomputable section
set_option maxRecDepth 100000
namespace Go.Sim.M
open Go.IntKind (i64 u64 u8)
open Go.RowKit Go.Proofs
abbrev xMj:Env:=EKR2
theorem xLr:OrcOk Tryz.prog ITryz xMj:=xPT
abbrev xLT:Env:=xMj
theorem xNo:OrcOk Tryz.prog ITryz xLT:=xLr
abbrev xNn:Env:=xLT
theorem xNb:OrcOk Tryz.prog ITryz xNn:=xNo
abbrev xL1:Env:=xNn
theorem xM3:OrcOk Tryz.prog ITryz xL1:=xNb
abbrev xMV:Env:=xL1
theorem xMO:OrcOk Tryz.prog ITryz xMV:=xM3
abbrev xD6:Env:=xMV
theorem xz4:OrcOk Tryz.prog ITryz xD6:=xMO
def xmT:Env:=xD6.fn 30 0 (lsOf []) (lpsOf [])
theorem xFT:OrcOk Tryz.prog (ITryz.at 0) xmT:=xz4.fn
theorem xAN:LoOk Tryz.prog (ITryz.at xmT.pin) xmT (loopAt Tryz.f25 0):=xaD (by kernel_rfl)
def xmH {T:Type} (l:LA) (t:Int) (a:Nat) (i:Int) (b:LA) (δ:T) (κl:(Nat×Int×LA)→T) (κr:(Nat×LA)→T):T:=br (decide (i<l.length)) (br (decide (0≤i)&&decide (i<l.length)) (br (decide (i.toNat<l.length)&&((l.getD i.toNat .top).cells.length==3&&hasShs [Sh.int .i64,Sh.int .i64] (l.getD i.toNat .top).cells 1)) (br (xik ((l.getD i.toNat .top).cells.getD 1 .top).toInt ((l.getD i.toNat .top).cells.getD 2 .top).toInt t) (br (decide (0≤i)&&decide (i<l.length)) (br (decide (i.toNat<l.length)&&hasSh1 (Sh.list 3) ((l.getD i.toNat .top).cells.getD 0 .top)) (br (a==b.length&&(decide ((a+1)*24≤140737488355328)&&decide (a+1≤4611686018427387904))) (κl (a+1,i64.wrap (i+1),b++[AV.list 3 ((l.getD i.toNat .top).cells.getD 0 .top).toList])) δ) δ) δ) (κl (a,i64.wrap (i+1),b))) δ) δ) (κr (a,b))
def xeZ (l:LA) (t:Int):(Nat×Int×LA)→Option ((Nat×Int×LA)⊕(Nat×LA)):=fun (b,i,a)=>xmH l t b i a none (fun s=>some (.inl s)) (fun p=>some (.inr p))
def xkt (l:LA) (t:Int):(Nat×Int×LA)→LA×List Box:=fun (b,i,a)=>([AV.list 3 l,AV.int .i64 t,AV.osl 0 0 0 b,AV.int .i64 i],[⟨0,1,40,a,false,true⟩])
def xjd (l:LA) (t:Int):(Nat×LA)→LR:=fun p=>(.leaf (.exit 0) [AV.osl 0 0 0 p.1] [⟨0,1,40,p.2,false,true⟩])
abbrev xGU (a:LA) (H:List Box):=XR Tryz.prog xmT [0,1,5,6] [5] [(5,1,40)] (loopAt Tryz.f25 0) a H
theorem xGY (l:LA) (t:Int) (s:Nat×Int×LA):Enc (encR (xkt l t) (xjd l t)) (xeZ l t s) (xGU (xkt l t s).1 (xkt l t s).2):=by
 obtain ⟨b,i,a⟩:=s
 refine eV (xmH l t b i a none (fun s=>some (encR (xkt l t) (xjd l t) (.inl s))) (fun p=>some (encR (xkt l t) (xjd l t) (.inr p)))) (by kernel_rfl) ?_;unfold xeZ xmH;repeat' first|exact eN|exact eS rfl|apply eB
def xwQ:Lp:=lpOf [0,1,5,6] [5] [(5,1,40)] (pCons (pList 3 pAny) (pCons (pInt .i64) (pCons (pOsl 0 0 0) (pCons (pInt .i64) pNil)))) (pCons (pBox 0 1 40 false true pAny) pNil) fun (l,(t,(b,(i,_)))) (a,_)=>((Iter (xeZ l t) (b,i,a)).isSome,xjd l t ((Iter (xeZ l t) (b,i,a)).getD (0,[])))
theorem xEj:LoopOk Tryz.prog (ITryz.at xmT.pin) xmT.nt (loopAt Tryz.f25 0) xwQ:=xbm fun d e g f=>by
 obtain ⟨l,⟨t,⟨b,⟨i,_⟩⟩⟩⟩:=d
 obtain ⟨a,_⟩:=e
 obtain ⟨c,rfl⟩:=Prod.mk.inj f
 exact xa6 mxTryz (inv0Ok Tryz.prog _) rfl xFT xAN (xkt l t) (xjd l t) (fun p=>by simp only [xjd,LR.eval];first|(simp;done)|(repeat' split<;>simp)) (xGY l t) (s:=(b,i,a)) (xac c)
def xpv:Env:=xD6.fn 30 0 (lsOf []) (lpsOf [(3,xwQ)])
theorem xFq:OrcOk Tryz.prog (ITryz.at 0) xpv:=xz4.fn
theorem xCT:LoOk Tryz.prog (ITryz.at xpv.pin) xpv (Tryz.f25.body.getD .skip):=xbe (ls:=[loopAt Tryz.f25 0]) (by kernel_rfl) (lkC xEj lkN)
def xwr (l:LA) (t:Int):=(Iter (xeZ l t) (0,0,[])).getD (0,[])
def xwC (l:LA) (t:Int):=(xwr l t).snd
def xwz (l:LA) (t:Int):=(xwr l t).fst
def xwH (l:LA) (t:Int):=xit (List.take (xwz l t) (List.drop 0 (xwC l t)))
def xt4 {T:Type} (l:LA) (t:Int) (δ:T) (κ:LA→T):T:=br ((Iter (xeZ l t) (0,0,[])).isSome) (br (decide (0+xwz l t≤(xwC l t).length)&&true) (br ((xwH l t).isSome) (κ ((xwH l t).getD [])) δ) δ) δ
def xe0 (l:LA) (t:Int):Option (LA):=xt4 l t none some
theorem xKf (l:LA) (t:Int):Enc (fun (p:LA)=>((AV.list 1 p):AV)) (xe0 l t) (XF Tryz.prog xpv Tryz.f25 (Tryz.f25.body.getD .skip) [AV.list 3 l,AV.int .i64 t]):=by
 refine eV (xt4 l t none (fun (p:LA)=>some ((AV.list 1 p):AV))) (by kernel_rfl) ?_;unfold xe0 xt4;repeat' first|exact eN|exact eS rfl|apply eB
def xD5:LA→Option (Bool×AV):=ocOf (sCons (sList 3 pAny) (sCons (sEq (pInt .i64)) sNil)) fun (l,(t,_))=>((xe0 l t).isSome,(AV.list 1 ((xe0 l t).getD [])))
theorem xKV:OcOk Tryz.prog ITryz 25 (xD5):=xbg fun c f e=>by
 obtain ⟨l,⟨t,_⟩⟩:=c
 obtain ⟨a,b⟩:=Prod.mk.inj e
 refine xa7 (p:=xpv.pin) (xbd mxTryz (inv0Ok Tryz.prog _) rfl xFq Tryz.func25 rfl (by kernel_rfl) xCT ((xKf _ _ _ (xac (d:=[]) a)).trans ?_))
 exact congrArg some b
def xEW:Env:=xD6.with 25 xD5
theorem xz0:OrcOk Tryz.prog ITryz xEW:=xz4.with xKV
def xhC:Env:=xEW.fn 27 0 (lsOf []) (lpsOf [])
theorem xyV:OrcOk Tryz.prog (ITryz.at 0) xhC:=xz0.fn
theorem xuG:LoOk Tryz.prog (ITryz.at xhC.pin) xhC (loopAt Tryz.f27 0):=xaD (by kernel_rfl)
def xh6 {T:Type} (a b:LA) (i:Int) (δ:T) (κl:(Int)→T) (κr:(Bool×(Bool)×(Unit))→T):T:=br (decide (i<a.length)) (br (decide (0≤i)&&decide (i<a.length)) (br (decide (i.toNat<a.length)&&hasSh1 (Sh.list 3) ((a.getD i.toNat .top).cells.getD 0 .top)) (br (decide (0≤i)&&decide (i<b.length)) (br (decide (i.toNat<b.length)&&hasSh1 (Sh.list 3) ((b.getD i.toNat .top).cells.getD 0 .top)) (br ((xiv ((a.getD i.toNat .top).cells.getD 0 .top).toList ((b.getD i.toNat .top).cells.getD 0 .top).toList).isSome) (br (!(xiv ((a.getD i.toNat .top).cells.getD 0 .top).toList ((b.getD i.toNat .top).cells.getD 0 .top).toList).getD false) (κr (true,(false),())) (κl (i64.wrap (i+1)))) δ) δ) δ) δ) δ) (κr (false,false,()))
def xb7 (a b:LA):(Int)→Option ((Int)⊕(Bool×(Bool)×(Unit))):=fun (i)=>xh6 a b i none (fun s=>some (.inl s)) (fun p=>some (.inr p))
def xgt (a b:LA):(Int)→LA×List Box:=fun (i)=>([AV.list 1 a,AV.list 1 b,AV.int .i64 i],[])
def xfD (a b:LA):(Bool×(Bool)×(Unit))→LR:=fun p=>(.node p.1 (.leaf .ret [AV.bool p.2.1] []) (.leaf (.exit 0) [.top] []))
abbrev xzA (a:LA) (H:List Box):=XR Tryz.prog xhC [0,1,5] [4] [] (loopAt Tryz.f27 0) a H
theorem xzJ (a b:LA) (i:Int):Enc (encR (xgt a b) (xfD a b)) (xb7 a b i) (xzA (xgt a b i).1 (xgt a b i).2):=by
 refine eV (xh6 a b i none (fun s=>some (encR (xgt a b) (xfD a b) (.inl s))) (fun p=>some (encR (xgt a b) (xfD a b) (.inr p)))) (by kernel_rfl) ?_;unfold xb7 xh6;repeat' first|exact eN|exact eS rfl|apply eB
def xqU:Lp:=lpOf [0,1,5] [4] [] (pCons (pList 1 pAny) (pCons (pList 1 pAny) (pCons (pInt .i64) pNil))) pNil fun (a,(b,(i,_))) _=>((Iter (xb7 a b) (i)).isSome,xfD a b ((Iter (xb7 a b) (i)).getD (false,false,())))
theorem xw5:LoopOk Tryz.prog (ITryz.at xhC.pin) xhC.nt (loopAt Tryz.f27 0) xqU:=xbm fun d f g e=>by
 obtain ⟨a,⟨b,⟨i,_⟩⟩⟩:=d
 obtain ⟨c,rfl⟩:=Prod.mk.inj e
 exact xa6 mxTryz (inv0Ok Tryz.prog _) rfl xyV xuG (xgt a b) (xfD a b) (fun p=>by simp only [xfD,LR.eval];first|(simp;done)|(repeat' split<;>simp)) (xzJ a b) (s:=(i)) (xac c)
def xjf:Env:=xEW.fn 27 0 (lsOf []) (lpsOf [(4,xqU)])
theorem xyH:OrcOk Tryz.prog (ITryz.at 0) xjf:=xz0.fn
theorem xwI:LoOk Tryz.prog (ITryz.at xjf.pin) xjf (Tryz.f27.body.getD .skip):=xbe (ls:=[loopAt Tryz.f27 0]) (by kernel_rfl) (lkC xw5 lkN)
def xmA {T:Type} (a b:LA) (δ:T) (κ:Bool→T):T:=br ((↑a.length:Int) != (↑b.length:Int)) (κ (false)) (br ((Iter (xb7 a b) 0).isSome) (br (((Iter (xb7 a b) 0).getD (false,false,())).fst) (κ (((Iter (xb7 a b) 0).getD (false,false,())).snd.fst)) (κ (true))) δ)
def xbC (a b:LA):Option (Bool):=xmA a b none some
theorem xCE (a b:LA):Enc (fun (p:Bool)=>((AV.bool p):AV)) (xbC a b) (XF Tryz.prog xjf Tryz.f27 (Tryz.f27.body.getD .skip) [AV.list 1 a,AV.list 1 b]):=by
 refine eV (xmA a b none (fun (p:Bool)=>some ((AV.bool p):AV))) (by kernel_rfl) ?_;unfold xbC xmA;repeat' first|exact eN|exact eS rfl|apply eB
def xuq:LA→Option (Bool×AV):=ocOf (sCons (sList 1 pAny) (sCons (sList 1 pAny) sNil)) fun (a,(b,_))=>((xbC a b).isSome,(AV.bool ((xbC a b).getD false)))
theorem xCC:OcOk Tryz.prog ITryz 27 (xuq):=xbg fun f h g=>by
 obtain ⟨a,⟨b,_⟩⟩:=f
 obtain ⟨c,e⟩:=Prod.mk.inj g
 refine xa7 (p:=xjf.pin) (xbd mxTryz (inv0Ok Tryz.prog _) rfl xyH Tryz.func27 rfl (by kernel_rfl) xwI ((xCE _ _ _ (xac (d:=false) c)).trans ?_))
 exact congrArg some e
def xMW:Env:=xEW.with 27 xuq
theorem xMb:OrcOk Tryz.prog ITryz xMW:=xz0.with xCC
abbrev xLC:Env:=xMW
theorem xMp:OrcOk Tryz.prog ITryz xLC:=xMb
abbrev xJY:Env:=xLC
theorem xLd:OrcOk Tryz.prog ITryz xJY:=xMp
abbrev EKR3:Env:=xJY
theorem xO5:OrcOk Tryz.prog ITryz EKR3:=xLd
end Go.Sim.M
end
noncomputable section
set_option maxRecDepth 100000
namespace Go.Sim
def stepX (P:Program) (E:Env) (live liveO:List Nat) (conv:List (Nat×Nat×TypeId)) (c:Code) (s:List AV×List Box):Option ((List AV×List Box)⊕{r:Exit×List AV×List Box // r.1≠.normal}) :=
 match XR P E live liveO conv c s.1 s.2 with
 | some (.normal,v,H)=>some (.inl (v,H))
 | some (.exit i,v,H)=>some (.inr ⟨(.exit i,v,H),by simp⟩)
 | some (.ret,v,H)=>some (.inr ⟨(.ret,v,H),by simp⟩)
 | _=>none
def closedLp (P:Program) (E:Env) (live liveO:List Nat) (conv:List (Nat×Nat×TypeId)) (c:Code) (n:Nat):Lp:=⟨live,liveO,conv,fun vals H =>
 match iterN (stepX P E live liveO conv c) n (vals,H) with
 | some r=>some (true,.leaf r.1.1 r.1.2.1 r.1.2.2)
 | none=>none⟩
theorem xJq {P:Program} {Inv:IV} {E:Env} (hmx:P.follows .mixedOrders=true) (hIo:InvOk Inv) (hpin:Inv.pin=E.pin) (hor:OrcOk P Inv E) {c:Code} (hlo:LoOk P Inv E c) {live liveO:List Nat} {conv:List (Nat×Nat×TypeId)} {n:Nat} :
  LoopOk P Inv E.nt c (closedLp P E live liveO conv c n):=fun vals H r h=>by
 simp only [closedLp] at h
 split at h
 case h_2=>simp at h
 rename_i r0 hr
 simp only [Option.some.injEq,Prod.mk.injEq,true_and] at h
 subst h
 exact xa6 hmx hIo hpin hor hlo (σ:=List AV×List Box) (ρ:={r:Exit×List AV×List Box // r.1≠.normal}) (step:=stepX P E live liveO conv c) (fun s=>s) (fun r=>.leaf r.1.1 r.1.2.1 r.1.2.2) (fun r=>r.2)
  (fun s r hs=>by
   unfold stepX at hs
   split at hs<;>simp only [Option.some.injEq,reduceCtorEq] at hs
   all_goals (subst hs;rename_i hx;exact hx)) (s:=(vals,H)) (r:=r0) (xst.2 ⟨n,hr⟩)
end Go.Sim
namespace Go.Sim.M
open Go.RowKit Go.Proofs
def mmA (g:FuncId):Bool:=([115,117,
 129,154,167,
 95,128,146,
 69,94,120,
 53,82,100,55,
 92,119,141,
 112,137,157,
 97,68,90,78]:List Nat).contains g
noncomputable def EA0:Env:={ E0 with ls:=lsOf [40,42,83],fuel:=1000 }
theorem xNh:OrcOk Tryz.prog ITryz EA0:=xK8
noncomputable def EAr:Env:={ Env.deep Tryz.prog mmA EA0 10 with pin:=0,nt:=60,ls:=lsOf [] }
theorem xL5:OrcOk Tryz.prog (ITryz.at 0) EAr:=xud mxTryz mmA (inv0Ok Tryz.prog 0) xNh (fun _=>rfl) 10
noncomputable def xNm:Lp:=closedLp Tryz.prog EAr [3,4,11,12,13] [4] [(4,2,133280301139)] (loopAt Tryz.f67 0) 100
noncomputable def EAr1:Env:={ EAr with lp:=lpsOf [(codeId (loopAt Tryz.f67 0),xNm)] }
theorem xPj:OrcOk Tryz.prog (ITryz.at 0) EAr1:=xL5
noncomputable def xFo:List AV→Option (Bool×AV):=fun xs=>match XF Tryz.prog EAr1 Tryz.f67 (Tryz.f67.body.getD .skip) xs with
 | some r=>some (true,r)
 | none=>none
theorem xPp:OcOk Tryz.prog ITryz 67 xFo:=fun xs r h=>by
 unfold xFo at h
 split at h
 case h_2=>simp at h
 rename_i r0 hr
 simp only [Option.some.injEq,Prod.mk.injEq,true_and] at h
 subst h
 refine xa7 (p:=0) (xbd mxTryz (inv0Ok Tryz.prog _) rfl xPj Tryz.func67 rfl (by kernel_rfl) (xbe (ls:=[loopAt Tryz.f67 0]) (by kernel_rfl) (fun l hl lp hs=>?_)) hr)
 simp only [List.mem_cons,List.not_mem_nil,or_false] at hl
 subst hl
 rw [show EAr1.lp (codeId (loopAt Tryz.f67 0))=some xNm by kernel_rfl] at hs
 simp only [Option.some.injEq] at hs
 subst hs
 exact xJq (E:=EAr) mxTryz (inv0Ok Tryz.prog _) rfl xL5 (xtr fun _=>rfl)
noncomputable def EAs:Env:=EA0.with 67 xFo
theorem xNt:OrcOk Tryz.prog ITryz EAs:=xNh.with xPp
noncomputable def EAd:Env:={ Env.deep Tryz.prog mmA EAs 14 with pin:=0 }
mutual
def eqV:AV→AV→Bool
 | .int k a,.int k' b=>decide (k=k')&&decide (a=b)
 | .bool a,.bool b=>a==b
 | .str a,.str b=>decide (a=b)
 | .list n a,.list m b=>Nat.beq n m&&eqVs a b
 | .agg a,.agg b=>eqVs a b
 | _,_=>false
def eqVs:List AV→List AV→Bool
 | [],[]=>true
 | a::l,b::m=>eqV a b&&eqVs l m
 | _,_=>false
end
mutual
theorem xQu:∀ (a b:AV),eqV a b=true→a=b:=fun a b h=>by
 cases a<;>cases b<;>first|(simp [eqV] at h;done)|skip
 all_goals simp only [eqV,Bool.and_eq_true,decide_eq_true_eq,beq_iff_eq] at h
 all_goals first|(rw [h.1,h.2];done)|(rw [h];done)|(rw [Nat.eq_of_beq_eq_true h.1,xBj _ _ h.2];done)|(rw [xBj _ _ h])
theorem xBj:∀ (a b:List AV),eqVs a b=true→a=b
 | [],[],_=>rfl
 | a::l,b::m,h=>by simp only [eqVs,Bool.and_eq_true] at h;rw [xQu a b h.1,xBj l m h.2]
 | [],_::_,h=>by simp [eqVs] at h
 | _::_,[],h=>by simp [eqVs] at h
end
def ptO (args:List AV) (r:AV):List AV→Option (Bool×AV):=fun xs=>match eqVs xs args with
 | true=>some (true,r)
 | false=>none
theorem xHm {P:Program} {Inv:IV} {f:FuncId} {args:List AV} {r:AV} (h:Good P Inv f args r):OcOk P Inv f (ptO args r):=fun xs r0 h0=>by
 unfold ptO at h0
 split at h0
 case h_2=>simp at h0
 rename_i he
 simp only [Option.some.injEq,Prod.mk.injEq,true_and] at h0
 subst h0
 rw [xBj _ _ he];exact h
theorem xvs {f:FuncId} {fn:Func} {args:List AV} {r:AV} (hf:Tryz.prog.funcs[f]?=some fn) (hb:fn.body.isSome=true) (hname:(fn.name == "runtime.NumGoroutine")=false) (h:XF Tryz.prog EAd fn (fn.body.getD .skip) args=some r):Good Tryz.prog ITryz f args r :=
 xa7 (p:=0) (xbd mxTryz (inv0Ok Tryz.prog _) rfl (xvI (xud mxTryz mmA (inv0Ok Tryz.prog 0) xNt (fun _=>rfl) 14)) hf hb hname (xtr fun _=>rfl) h)
def fcA (a b:Int):AV:=.agg [.list 3 [.agg [.int .i64 1,.int .i64 1,.str []]],.int .i64 a,.int .i64 b]
def lA:AV:=.list 3 [fcA 0 5,fcA 5 8,fcA 2 3]
set_option maxRecDepth 100000 in
theorem xQa:XF Tryz.prog EAd Tryz.f14 (Tryz.f14.body.getD .skip) [lA]=some (.list 3 [fcA 0 8,fcA 2 3]):=by kernel_rfl
theorem xPx:XF Tryz.prog EAd Tryz.f16 (Tryz.f16.body.getD .skip) [lA]=some (.list 3 [fcA 0 8]):=by kernel_rfl
theorem xQh:OcOk Tryz.prog ITryz 14 (ptO [lA] (.list 3 [fcA 0 8,fcA 2 3])):=xHm (xvs Tryz.func14 rfl (by kernel_rfl) xQa)
theorem xP5:OcOk Tryz.prog ITryz 16 (ptO [lA] (.list 3 [fcA 0 8])):=xHm (xvs Tryz.func16 rfl (by kernel_rfl) xPx)
def resA:AV:=.list 3 [fcA 2 5,fcA 5 6,fcA 2 3]
theorem xQq:XF Tryz.prog EAd Tryz.f14 (Tryz.f14.body.getD .skip) [resA]=some (.list 3 [fcA 2 3,fcA 2 6]):=by kernel_rfl
theorem xQk:OcOk Tryz.prog ITryz 14 (ptO [resA] (.list 3 [fcA 2 3,fcA 2 6])):=xHm (xvs Tryz.func14 rfl (by kernel_rfl) xQq)
theorem xQb:XF Tryz.prog EAd Tryz.f21 (Tryz.f21.body.getD .skip) [lA]=some (.list 1 [.int .i64 0,.int .i64 2,.int .i64 3,.int .i64 5,.int .i64 8]):=by kernel_rfl
theorem xP1:OcOk Tryz.prog ITryz 21 (ptO [lA] (.list 1 [.int .i64 0,.int .i64 2,.int .i64 3,.int .i64 5,.int .i64 8])):=xHm (xvs Tryz.func21 rfl (by kernel_rfl) xQb)
noncomputable def EAt:Env:=(((EAs.with 14 (ptO [lA] (.list 3 [fcA 0 8,fcA 2 3]))).with 14 (ptO [resA] (.list 3 [fcA 2 3,fcA 2 6]))).with 16 (ptO [lA] (.list 3 [fcA 0 8]))).with 21 (ptO [lA] (.list 1 [.int .i64 0,.int .i64 2,.int .i64 3,.int .i64 5,.int .i64 8]))
theorem xQg:OrcOk Tryz.prog ITryz EAt:=(((xNt.with xQh).with xQk).with xP5).with xP1
noncomputable def EAe:Env:={ Env.deep Tryz.prog mmA EAt 14 with pin:=0 }
theorem xPs:XF Tryz.prog EAe Tryz.f12 (Tryz.f12.body.getD .skip) []=some (.bool true):=by kernel_rfl
def xEx:List AV→Option (Bool×AV)
 | []=>some (true,.bool true)
 | _=>none
theorem xPt:OcOk Tryz.prog ITryz 12 xEx:=fun xs r h=>by
 unfold xEx at h;split at h
 · simp only [Option.some.injEq,Prod.mk.injEq,true_and] at h;subst h
   have hd:=xud mxTryz mmA (inv0Ok Tryz.prog 0) xQg (fun _=>rfl) 14
   exact xa7 (p:=0) (xbd mxTryz (inv0Ok Tryz.prog _) rfl (xvI hd) Tryz.func12 rfl (by kernel_rfl) (xtr fun _=>rfl) xPs)
 · simp at h
end Go.Sim.M
end
noncomputable section
namespace Go.Sim.M
open Go.IntKind (i64 u64 u8)
open Go.RowKit Go.Proofs
def EKA:Env:=EKR3.with 12 xEx
theorem xHQ:OrcOk Tryz.prog ITryz EKA:=xO5.with xPt
end Go.Sim.M
end
noncomputable section
set_option maxRecDepth 100000
namespace Go.Sim.M
open Go.IntKind (i64 u64 u8)
open Go.RowKit Go.Proofs
def xl2:Env:=EKA.fn 23 0 (lsOf []) (lpsOf [])
theorem xD7:OrcOk Tryz.prog (ITryz.at 0) xl2:=xHQ.fn
theorem xzD:LoOk Tryz.prog (ITryz.at xl2.pin) xl2 (loopAt Tryz.f40 0):=xaD (by kernel_rfl)
def xlQ {T:Type} (l:LA) (i:Int) (δ:T) (κl:(Int)→T) (κr:(Bool×(Bool)×(Unit))→T):T:=br (decide (i<l.length)) (br (decide (0≤i)&&decide (i<l.length)) (br (decide (i.toNat<l.length)&&hasSh1 (Sh.list 3) ((l.getD i.toNat .top).cells.getD 0 .top)) (br (decide ((↑((l.getD i.toNat .top).cells.getD 0 .top).toList.length:Int)>60)) (κr (true,(false),())) (κl (i64.wrap (i+1)))) δ) δ) (κr (false,false,()))
def xdb (l:LA):(Int)→Option ((Int)⊕(Bool×(Bool)×(Unit))):=fun (i)=>xlQ l i none (fun s=>some (.inl s)) (fun p=>some (.inr p))
def xjP (l:LA):(Int)→LA×List Box:=fun (i)=>([AV.list 3 l,AV.int .i64 i],[])
def xir (l:LA):(Bool×(Bool)×(Unit))→LR:=fun p=>(.node p.1 (.leaf .ret [AV.bool p.2.1] []) (.leaf (.exit 0) [.top] []))
abbrev xE5 (a:LA) (H:List Box):=XR Tryz.prog xl2 [0,5] [4] [] (loopAt Tryz.f40 0) a H
theorem xFL (l:LA) (i:Int):Enc (encR (xjP l) (xir l)) (xdb l i) (xE5 (xjP l i).1 (xjP l i).2):=by
 refine eV (xlQ l i none (fun s=>some (encR (xjP l) (xir l) (.inl s))) (fun p=>some (encR (xjP l) (xir l) (.inr p)))) (by kernel_rfl) ?_;unfold xdb xlQ;repeat' first|exact eN|exact eS rfl|apply eB
def xvU:Lp:=lpOf [0,5] [4] [] (pCons (pList 3 pAny) (pCons (pInt .i64) pNil)) pNil fun (l,(i,_)) _=>((Iter (xdb l) (i)).isSome,xir l ((Iter (xdb l) (i)).getD (false,false,())))
theorem xCH:LoopOk Tryz.prog (ITryz.at xl2.pin) xl2.nt (loopAt Tryz.f40 0) xvU:=xbm fun b d e c=>by
 obtain ⟨l,⟨i,_⟩⟩:=b
 obtain ⟨a,rfl⟩:=Prod.mk.inj c
 exact xa6 mxTryz (inv0Ok Tryz.prog _) rfl xD7 xzD (xjP l) (xir l) (fun p=>by simp only [xir,LR.eval];first|(simp;done)|(repeat' split<;>simp)) (xFL l) (s:=(i)) (xac a)
def xnv:Env:=EKA.fn 23 0 (lsOf []) (lpsOf [(4,xvU)])
theorem xEL:OrcOk Tryz.prog (ITryz.at 0) xnv:=xHQ.fn
theorem xBt:LoOk Tryz.prog (ITryz.at xnv.pin) xnv (Tryz.f40.body.getD .skip):=xbe (ls:=[loopAt Tryz.f40 0]) (by kernel_rfl) (lkC xCH lkN)
def xsN {T:Type} (l:LA) (a:Int) (δ:T) (κ:Bool→T):T:=br (decide ((↑l.length:Int)>a)) (κ (false)) (br ((Iter (xdb l) 0).isSome) (br (((Iter (xdb l) 0).getD (false,false,())).fst) (κ (((Iter (xdb l) 0).getD (false,false,())).snd.fst)) (κ (true))) δ)
def xmk (l:LA) (a:Int):Option (Bool):=xsN l a none some
theorem xJC (l:LA) (a:Int):Enc (fun (p:Bool)=>((AV.bool p):AV)) (xmk l a) (XF Tryz.prog xnv Tryz.f40 (Tryz.f40.body.getD .skip) [AV.list 3 l,AV.int .i64 a]):=by
 refine eV (xsN l a none (fun (p:Bool)=>some ((AV.bool p):AV))) (by kernel_rfl) ?_;unfold xmk xsN;repeat' first|exact eN|exact eS rfl|apply eB
def xB5:LA→Option (Bool×AV):=ocOf (sCons (sList 3 pAny) (sCons (sEq (pInt .i64)) sNil)) fun (l,(a,_))=>((xmk l a).isSome,(AV.bool ((xmk l a).getD false)))
theorem xJa:OcOk Tryz.prog ITryz 40 (xB5):=xbg fun c g e=>by
 obtain ⟨l,⟨f,_⟩⟩:=c
 obtain ⟨a,b⟩:=Prod.mk.inj e
 refine xa7 (p:=xnv.pin) (xbd mxTryz (inv0Ok Tryz.prog _) rfl xEL Tryz.func40 rfl (by kernel_rfl) xBt ((xJC _ _ _ (xac (d:=false) a)).trans ?_))
 exact congrArg some b
def xKP:Env:=EKA.with 40 xB5
theorem xHL:OrcOk Tryz.prog ITryz xKP:=xHQ.with xJa
def xnk:Env:=xKP.fn 5 0 (lsOf []) (lpsOf [])
theorem xEO:OrcOk Tryz.prog (ITryz.at 0) xnk:=xHL.fn
theorem xBY:LoOk Tryz.prog (ITryz.at xnk.pin) xnk (Tryz.f11.body.getD .skip):=xaD (by kernel_rfl)
def xsM {T:Type} (l:LA) (δ:T) (κ:Bool→T):T:=br ((xmk l 24).isSome) (κ ((xmk l 24).getD false)) δ
def xmf (l:LA):Option (Bool):=xsM l none some
theorem xI8 (l:LA):Enc (fun (p:Bool)=>((AV.bool p):AV)) (xmf l) (XF Tryz.prog xnk Tryz.f11 (Tryz.f11.body.getD .skip) [AV.list 3 l]):=by
 refine eV (xsM l none (fun (p:Bool)=>some ((AV.bool p):AV))) (by kernel_rfl) ?_;unfold xmf xsM;repeat' first|exact eN|exact eS rfl|apply eB
def xCp:LA→Option (Bool×AV):=ocOf (sCons (sList 3 pAny) sNil) fun (l,_)=>((xmf l).isSome,(AV.bool ((xmf l).getD false)))
theorem xJp:OcOk Tryz.prog ITryz 11 (xCp):=xbg fun c f e=>by
 obtain ⟨l,_⟩:=c
 obtain ⟨a,b⟩:=Prod.mk.inj e
 refine xa7 (p:=xnk.pin) (xbd mxTryz (inv0Ok Tryz.prog _) rfl xEO Tryz.func11 rfl (by kernel_rfl) xBY ((xI8 _ _ (xac (d:=false) a)).trans ?_))
 exact congrArg some b
def xOX:Env:=xKP.with 11 xCp
theorem xOj:OrcOk Tryz.prog ITryz xOX:=xHL.with xJp
abbrev xOC:Env:=xOX
theorem xOe:OrcOk Tryz.prog ITryz xOC:=xOj
abbrev xOT:Env:=xOC
theorem xNJ:OrcOk Tryz.prog ITryz xOT:=xOe
abbrev xOP:Env:=xOT
theorem xOg:OrcOk Tryz.prog ITryz xOP:=xNJ
abbrev xO0:Env:=xOP
theorem xNF:OrcOk Tryz.prog ITryz xO0:=xOg
def xe3:Env:=xO0.fn 47 0 (lsOf []) (lpsOf [])
theorem xrH:OrcOk Tryz.prog (ITryz.at 0) xe3:=xNF.fn
theorem xqJ:LoOk Tryz.prog (ITryz.at xe3.pin) xe3 (Tryz.f5.body.getD .skip):=xaD (by kernel_rfl)
def xg8 {T:Type} (l:LA) (a b t:Int) (δ:T) (κ:Bool→T):T:=br ((xmf l).isSome) (br (!(xmf l).getD false) (κ (true)) (br ((xe0 l t).isSome) (br (xik a b t) (br ((xdM l).isSome) (br ((xbI ((xdM l).getD []) t).isSome) (br ((xbC ((xbI ((xdM l).getD []) t).getD []) ((xe0 l t).getD [])).isSome) (br ((xbC ((xbI ((xdM l).getD []) t).getD []) ((xe0 l t).getD [])).getD false) (br ((xeo l).isSome) (br ((xbI ((xeo l).getD []) t).isSome) (br ((xek ((xe0 l t).getD [])).isSome) (br ((xbC ((xbI ((xeo l).getD []) t).getD []) ((xek ((xe0 l t).getD [])).getD [])).isSome) (br ((xbC ((xbI ((xeo l).getD []) t).getD []) ((xek ((xe0 l t).getD [])).getD [])).getD false) (br ((xbX l a b).isSome) (br ((xbI ((xbX l a b).getD []) t).isSome) (br ((xbC ((xbI ((xbX l a b).getD []) t).getD []) ((xe0 l t).getD [])).isSome) (br ((xbC ((xbI ((xbX l a b).getD []) t).getD []) ((xe0 l t).getD [])).getD false) (κ (true)) (κ (false))) δ) δ) δ) (κ (false))) δ) δ) δ) δ) (κ (false))) δ) δ) δ) (br ((xdM l).isSome) (br ((xbI ((xdM l).getD []) t).isSome) (br ((xbC ((xbI ((xdM l).getD []) t).getD []) ((xe0 l t).getD [])).isSome) (br ((xbC ((xbI ((xdM l).getD []) t).getD []) ((xe0 l t).getD [])).getD false) (br ((xeo l).isSome) (br ((xbI ((xeo l).getD []) t).isSome) (br ((xek ((xe0 l t).getD [])).isSome) (br ((xbC ((xbI ((xeo l).getD []) t).getD []) ((xek ((xe0 l t).getD [])).getD [])).isSome) (br ((xbC ((xbI ((xeo l).getD []) t).getD []) ((xek ((xe0 l t).getD [])).getD [])).getD false) (br ((xbX l a b).isSome) (br ((xbI ((xbX l a b).getD []) t).isSome) (br ((xbC ((xbI ((xbX l a b).getD []) t).getD []) []).isSome) (br ((xbC ((xbI ((xbX l a b).getD []) t).getD []) []).getD false) (κ (true)) (κ (false))) δ) δ) δ) (κ (false))) δ) δ) δ) δ) (κ (false))) δ) δ) δ)) δ)) δ
def xei (l:LA) (a b t:Int):Option (Bool):=xg8 l a b t none some
theorem xuh (l:LA) (a b t:Int):Enc (fun (p:Bool)=>((AV.bool p):AV)) (xei l a b t) (XF Tryz.prog xe3 Tryz.f5 (Tryz.f5.body.getD .skip) [AV.list 3 l,AV.agg [AV.int .i64 a,AV.int .i64 b],AV.int .i64 t]):=by
 refine eV (xg8 l a b t none (fun (p:Bool)=>some ((AV.bool p):AV))) (by kernel_rfl) ?_;unfold xei xg8;repeat' first|exact eN|exact eS rfl|apply eB
def xuc:LA→Option (Bool×AV):=ocOf (sCons (sList 3 pAny) (sCons (sAgg (sCons (sEq (pInt .i64)) (sCons (sEq (pInt .i64)) sNil))) (sCons (sEq (pInt .i64)) sNil))) fun (l,((a,(b,_)),(t,_)))=>((xei l a b t).isSome,(AV.bool ((xei l a b t).getD false)))
theorem xt5:OcOk Tryz.prog ITryz 5 (xuc):=xbg fun c h e=>by
 obtain ⟨l,⟨⟨f,⟨g,_⟩⟩,⟨t,_⟩⟩⟩:=c
 obtain ⟨a,b⟩:=Prod.mk.inj e
 refine xa7 (p:=xe3.pin) (xbd mxTryz (inv0Ok Tryz.prog _) rfl xrH Tryz.func5 rfl (by kernel_rfl) xqJ ((xuh _ _ _ _ _ (xac (d:=false) a)).trans ?_))
 exact congrArg some b
end Go.Sim.M
end
