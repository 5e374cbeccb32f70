/- Part 14 of the proof: SrtE, E1, KP1, KP2, Lset, KP3, KP4, KP5, KV, KQ, KR1, KJ, KR2, KR3, Awz, KA, KL. -/
import Derived.Test.YtefloaolddjnhaaGreatDoorQS13
import Derived.StillTailTactics
set_option linter.unusedVariables false
set_option linter.unusedSimpArgs false
set_option linter.unnecessarySimpa false
set_option linter.unusedSectionVars false
noncomputable section
set_option maxRecDepth 100000
namespace Go.Sim.M
def cmpI (x y:Int):Int:=if x<y then -1 else if y<x then 1 else 0
def orI (x y:Int):Int:=if x=0 then y else x
end Go.Sim.M
namespace Go.Proofs
open Go.RowKit Go.Sim Go.Sim.M Go.Sort Go.Lib
theorem Tryz.cmp_walk (x y:Int) (w:World):Calls Tryz.prog 54 #[.int .i64 x,.int .i64 y] w fun e w'=>e=.returned (.int .i64 (cmpI x y))∧w'=w:=by
 unfold cmpI
 go_enter Tryz.func54,Tryz.ntmps54
 go_wp2
 all_goals (go_ret;exact ⟨rfl,rfl⟩)
theorem Tryz.or_walk (x y:Int) (b off c:Nat) (w:World) (h0:w.cell? ⟨b,off,none⟩=some (.int .i64 x)) (h1:w.cell? ⟨b,off+1,none⟩=some (.int .i64 y)):Calls Tryz.prog 71 #[.slice (some ⟨b,off,none⟩) 2 c] w fun e w'=>e=.returned (.int .i64 (orI x y))∧w'=w:=by
 unfold orI
 by_cases hx:x=0
 · subst hx
   rw [if_pos rfl]
   by_cases hy:y=0
   · subst hy
     go_enter Tryz.func71,Tryz.ntmps71
     go_wp2
     refine wp_loop_rounds 3 ?_
     rw [rounds_succ]
     go_wp2
     rw [rounds_succ]
     go_wp2
     rw [rounds_succ]
     go_wp2
     go_ret
     exact ⟨rfl,rfl⟩
   · have hy':(y != 0)=true:=by simpa using hy
     go_enter Tryz.func71,Tryz.ntmps71
     go_wp2
     refine wp_loop_rounds 3 ?_
     rw [rounds_succ]
     go_wp2
     rw [rounds_succ]
     go_wp2
     go_ret
     exact ⟨rfl,rfl⟩
 · have hx':(x != 0)=true:=by simpa using hx
   rw [if_neg hx]
   go_enter Tryz.func71,Tryz.ntmps71
   go_wp2
   refine wp_loop_rounds 3 ?_
   rw [rounds_succ]
   go_wp2
   go_ret
   exact ⟨rfl,rfl⟩
theorem fill2I (u1 u2:Int):Instr.fill (fun i=>some (i*1,1)) ((Array.range (2*1)).map (fun x=>(Value.int .i64 0).cells[x % (Value.int .i64 0).cells.size]!)) [(0,.int .i64 u1),(1,.int .i64 u2)]=some #[.int .i64 u1,.int .i64 u2]:=by
 simp [Instr.fill,Array.range,Value.cells]
 apply Array.ext
 · simp
 · intro i h1 h2
   rcases i with _|_|i
   · simp
   · simp
   · simp at h2;omega
set_option maxHeartbeats 2000000 in
theorem Tryz.levels2_walk (a b c d:Int) (w:World):Calls Tryz.prog 70 #[.agg #[.int .i64 a,.int .i64 b],.agg #[.int .i64 c,.int .i64 d]] w fun e w'=>e=.returned (.int .i64 (orI (cmpI a c) (cmpI b d)))∧∃ q os',w'=Sort.grow (w.drewN q) os':=by
 go_enter Tryz.func70,Tryz.ntmps70
 go_wp2_with (go_at_call 54;skip)
 have g0:(w.alloc (.cells #[.int .i64 a,.int .i64 b] 31)).heap[w.heap.size]?=some (.cells #[.int .i64 a,.int .i64 b] 31 (0,0)):=heap_alloc_new w _
 have g1:((w.alloc (.cells #[.int .i64 a,.int .i64 b] 31)).alloc (.cells #[.int .i64 c,.int .i64 d] 31)).heap[w.heap.size+1]?=some (.cells #[.int .i64 c,.int .i64 d] 31 (0,0)):=by
  have:=heap_alloc_new (w.alloc (.cells #[.int .i64 a,.int .i64 b] 31)) (.cells #[.int .i64 c,.int .i64 d] 31)
  have e:(w.alloc (.cells #[.int .i64 a,.int .i64 b] 31)).heap.size=w.heap.size+1:=by simp
  rwa [e] at this
 have f0:((w.alloc (.cells #[.int .i64 a,.int .i64 b] 31)).alloc (.cells #[.int .i64 c,.int .i64 d] 31)).cell? ⟨w.heap.size,0,none⟩=some (.int .i64 a):=by
  rw [World.cell?_alloc_past _ _ _ (by simp)];simp only [World.cell?,g0];rfl
 have f1:((w.alloc (.cells #[.int .i64 a,.int .i64 b] 31)).alloc (.cells #[.int .i64 c,.int .i64 d] 31)).cell? ⟨w.heap.size,1,none⟩=some (.int .i64 b):=by
  rw [World.cell?_alloc_past _ _ _ (by simp)];simp only [World.cell?,g0];rfl
 have f2:((w.alloc (.cells #[.int .i64 a,.int .i64 b] 31)).alloc (.cells #[.int .i64 c,.int .i64 d] 31)).cell? ⟨w.heap.size+1,0,none⟩=some (.int .i64 c):=by
  simp only [World.cell?,g1];rfl
 have f3:((w.alloc (.cells #[.int .i64 a,.int .i64 b] 31)).alloc (.cells #[.int .i64 c,.int .i64 d] 31)).cell? ⟨w.heap.size+1,1,none⟩=some (.int .i64 d):=by
  simp only [World.cell?,g1];rfl
 have f4:∃ q os',((w.alloc (.cells #[.int .i64 a,.int .i64 b] 31)).alloc (.cells #[.int .i64 c,.int .i64 d] 31))=Sort.grow (w.drewN q) os':=⟨0,_,by rw [alloc_eq_grow,alloc_eq_grow,grow_grow];rfl⟩
 generalize ((w.alloc (.cells #[.int .i64 a,.int .i64 b] 31)).alloc (.cells #[.int .i64 c,.int .i64 d] 31))=W2 at f0 f1 f2 f3 f4 ⊢
 refine wp_region_still_tail 10 (by kernel_rfl) (by kernel_rfl) ?_
 simp only [List.take_succ_cons,List.take_zero,List.drop_succ_cons,List.drop_zero]
 change wpStill _ _ (World.drew W2) _ _ _
 have f0':W2.drew.cell? ⟨w.heap.size,0,none⟩=some (.int .i64 a):=f0
 have f1':W2.drew.cell? ⟨w.heap.size,1,none⟩=some (.int .i64 b):=f1
 have f2':W2.drew.cell? ⟨w.heap.size+1,0,none⟩=some (.int .i64 c):=f2
 have f3':W2.drew.cell? ⟨w.heap.size+1,1,none⟩=some (.int .i64 d):=f3
 have f4':∃ q os',W2.drew=Sort.grow (w.drewN q) os':=by obtain ⟨q,os',e⟩:=f4;exact ⟨q+1,os',by rw [e];rfl⟩
 iterate 4 still_step
 still_call (Tryz.cmp_walk _ _ _)
 iterate 4 still_step
 still_call (Tryz.cmp_walk _ _ _)
 refine wpStill_nil ?_
 change wpList _ _ _ _ _ (World.drew W2)
 generalize World.drew W2=W at f0' f1' f2' f3' f4' ⊢
 generalize hu1:cmpI a c=u1
 generalize hu2:cmpI b d=u2
 obtain ⟨ie,q1,q2,q3⟩:∃ ie,Tryz.prog.info? 3=some ie∧ie.zero=some (.int .i64 0)∧ie.size=1:=⟨(Tryz.prog.info? 3).get (by kernel_rfl),(Option.some_get _).symm,by kernel_rfl,by kernel_rfl⟩
 refine wpList_buildSlice rfl 28 3 2 _ rfl #[.int .i64 u1,.int .i64 u2] ie (.int .i64 0) (by kernel_rfl) q1 q2 (by rw [q3];decide) (by rw [q3];decide) (by rw [q3];refine Eq.trans (congrArg _ ?_) (fill2I u1 u2);simp [Act.eval]) ?_
 simp only [Act.put]
 go_wp2_with fail
 have g2:(W.alloc (.cells #[.int .i64 u1,.int .i64 u2] 3)).heap[W.heap.size]?=some (.cells #[.int .i64 u1,.int .i64 u2] 3 (0,0)):=heap_alloc_new W _
 refine (Tryz.or_walk u1 u2 W.heap.size 0 2 (W.alloc (.cells #[.int .i64 u1,.int .i64 u2] 3)) (by simp only [World.cell?,g2];rfl) (by simp only [World.cell?,g2];rfl)).mono ?_
 rintro e w' ⟨rfl,rfl⟩
 go_wp2
 go_ret
 obtain ⟨q,os',hq⟩:=f4'
 exact ⟨by rw [hu1,hu2];rfl,q,_,by rw [hq,alloc_eq_grow,grow_grow]⟩
end Go.Proofs
namespace Go.Sim.M
abbrev TyE:Type:=Fin 1099511627777×Int×Int
def intsE (x:TyE):List Int:=[(x.1.val:Int),x.2.1,x.2.2]
def cmpE (x y:TyE):Int:=(x.1.val:Int) - (y.1.val:Int)
end Go.Sim.M
namespace Go.Proofs
open Go.RowKit Go.Sim Go.Sim.M Go.Sort
set_option maxHeartbeats 1000000 in
theorem Tryz.walkE (a b c a' b' c' r:Int) (hr:IntKind.i64.wrap (a - a')=r) (W:World):Calls Tryz.prog 130 #[.agg #[.int .i64 a,.int .i64 b,.int .i64 c],.agg #[.int .i64 a',.int .i64 b',.int .i64 c']] W fun e w'=>e=.returned (.int .i64 r)∧∃ q os',w'=Sort.grow (W.drewN q) os':=by
 go_enter Tryz.func130,Tryz.ntmps130
 go_wp2
 go_ret
 subst hr
 exact ⟨rfl,0,_,by rw [alloc_eq_grow,alloc_eq_grow,grow_grow];rfl⟩
end Go.Proofs
namespace Go.Sim.M
open Go.RowKit Go.Proofs Go.Sort
def isE:AV→Bool
 | .agg [.int .i64 a,.int .i64 _,.int .i64 _]=>decide (0≤a)&&decide (a≤1099511627776)
 | _=>false
def decE:AV→TyE
 | .agg [.int _ a,.int _ b,.int _ c]=>(Fin.ofNat 1099511627777 a.toNat,b,c)
 | _=>default
noncomputable def srtE (xs:List AV):List AV:=(pdqL cmpE (xs.map decE)).map (encI intsE)
theorem xNh {x:AV} (h:isE x=true):encI intsE (decE x)=x:=by
 unfold isE at h
 split at h
 · rename_i a b c
   simp only [Bool.and_eq_true,decide_eq_true_eq] at h
   have:a.toNat % 1099511627777=a.toNat:=Nat.mod_eq_of_lt (by omega)
   simp only [decE,encI,intsE,List.map_cons,List.map_nil,Fin.ofNat,this,Int.toNat_of_nonneg h.1]
 · simp at h
theorem xMY {xs:List AV} (h:xs.all isE=true):(xs.map decE).map (encI intsE)=xs:=by
 rw [List.map_map]
 conv=>rhs;rw [←List.map_id xs]
 refine List.map_congr_left fun x hx=>?_
 exact xNh (List.all_eq_true.1 h x hx)
theorem ltE (x y:TyE):ltOf cmpE x y=decide (x.1.val<y.1.val):=by
 unfold ltOf cmpE
 by_cases h:x.1.val<y.1.val
 · rw [decide_eq_true h,decide_eq_true (by omega)]
 · rw [decide_eq_false h,decide_eq_false (by omega)]
theorem swoE:SWO (ltOf cmpE) where
 irrefl x:=by rw [ltE];simp
 trans x y z h1 h2:=by rw [ltE] at *;simp at *;omega
 ntrans x y z h1 h2:=by rw [ltE] at *;simp at *;omega
noncomputable def xEP:List AV→List Box→Option (Bool×AV×List Box)
 | [.osl (.b 0) ver 0 n,.func g []],[⟨ver',3,ty,xs,false,true⟩]=>match Nat.beq g 130&&Nat.beq ty 117 with
  | true=>some (Nat.beq ver ver'&&(Nat.beq n xs.length&&(decide (n<4611686018427387904)&&xs.all isE)),.tuple [],[⟨ver',3,117,srtE xs,false,true⟩])
  | false=>none
 | _,_=>none
theorem xOY:OmOk Tryz.prog ITryz 129 xEP:=fun ass H r H' h=>by
 unfold xEP at h
 split at h
 · rename_i ver n g ver' ty xs
   split at h
   case h_2=>simp at h
   rename_i hg
   simp only [Bool.and_eq_true] at hg
   obtain rfl:=Nat.eq_of_beq_eq_true hg.1
   obtain rfl:=Nat.eq_of_beq_eq_true hg.2
   simp only [Option.some.injEq,Prod.mk.injEq,Bool.and_eq_true,decide_eq_true_eq] at h
   obtain ⟨⟨h1,h2,h3,h4⟩,rfl,rfl⟩:=h
   obtain rfl:=Nat.eq_of_beq_eq_true h1
   obtain rfl:=Nat.eq_of_beq_eq_true h2
   have hti:∃ ti,tinfo Tryz.prog 117=some ti∧ti.sz=3∧ti.agg=true:=by
    have h:(match tinfo Tryz.prog 117 with|some ti=>(ti.sz==3)&&ti.agg|none=>false)=true:=by kernel_rfl
    split at h
    · rename_i ti hti
      simp only [Bool.and_eq_true,beq_iff_eq] at h
      exact ⟨ti,hti,h.1,h.2⟩
    · simp at h
   obtain ⟨ti,hti,hz,ha⟩:=hti
   have hgd:=xsi (P:=Tryz.prog) (Inv:=ITryz) Tryz.srl129 3 (by decide) (fun w=>by rw [←ha];exact xnB hti w) (fun w=>by rw [←hz];exact xeQ hti w)
    intsE (fun _=>rfl) cmpE swoE 130 (xee Tryz.func129 rfl (by kernel_rfl)) (xme (xee Tryz.func130 rfl (by kernel_rfl)))
    (fun x y W=>Tryz.walkE _ _ _ _ _ _ (cmpE x y) (by
     have:=x.1.isLt
     have:=y.1.isLt
     unfold cmpE
     exact xek (by omega) (by omega)) W)
    ver 117 rfl (xs.map decE) (by simpa using h3)
   rw [List.length_map,xMY h4] at hgd
   exact hgd
 · simp at h
end Go.Sim.M
namespace Go.Sim.M
abbrev TyS:Type:=Fin 1099511627777×Int
def intsS (x:TyS):List Int:=[(x.1.val:Int),x.2]
def cmpS (x y:TyS):Int:=(x.1.val:Int) - (y.1.val:Int)
end Go.Sim.M
namespace Go.Proofs
open Go.RowKit Go.Sim Go.Sim.M Go.Sort
set_option maxHeartbeats 1000000 in
theorem Tryz.walkS (a b a' b' r:Int) (hr:IntKind.i64.wrap (a - a')=r) (W:World):Calls Tryz.prog 96 #[.agg #[.int .i64 a,.int .i64 b],.agg #[.int .i64 a',.int .i64 b']] W fun e w'=>e=.returned (.int .i64 r)∧∃ q os',w'=Sort.grow (W.drewN q) os':=by
 go_enter Tryz.func96,Tryz.ntmps96
 go_wp2
 go_ret
 subst hr
 exact ⟨rfl,0,_,by rw [alloc_eq_grow,alloc_eq_grow,grow_grow];rfl⟩
end Go.Proofs
namespace Go.Sim.M
open Go.RowKit Go.Proofs Go.Sort
def isS:AV→Bool
 | .agg [.int .i64 a,.int .i64 _]=>decide (0≤a)&&decide (a≤1099511627776)
 | _=>false
def decS:AV→TyS
 | .agg [.int _ a,.int _ b]=>(Fin.ofNat 1099511627777 a.toNat,b)
 | _=>default
noncomputable def srtS (xs:List AV):List AV:=(pdqL cmpS (xs.map decS)).map (encI intsS)
theorem xNw {x:AV} (h:isS x=true):encI intsS (decS x)=x:=by
 unfold isS at h
 split at h
 · rename_i a b
   simp only [Bool.and_eq_true,decide_eq_true_eq] at h
   have:a.toNat % 1099511627777=a.toNat:=Nat.mod_eq_of_lt (by omega)
   simp only [decS,encI,intsS,List.map_cons,List.map_nil,Fin.ofNat,this,Int.toNat_of_nonneg h.1]
 · simp at h
theorem xMl {xs:List AV} (h:xs.all isS=true):(xs.map decS).map (encI intsS)=xs:=by
 rw [List.map_map]
 conv=>rhs;rw [←List.map_id xs]
 refine List.map_congr_left fun x hx=>?_
 exact xNw (List.all_eq_true.1 h x hx)
theorem ltS (x y:TyS):ltOf cmpS x y=decide (x.1.val<y.1.val):=by
 unfold ltOf cmpS
 by_cases h:x.1.val<y.1.val
 · rw [decide_eq_true h,decide_eq_true (by omega)]
 · rw [decide_eq_false h,decide_eq_false (by omega)]
theorem swoS:SWO (ltOf cmpS) where
 irrefl x:=by rw [ltS];simp
 trans x y z h1 h2:=by rw [ltS] at *;simp at *;omega
 ntrans x y z h1 h2:=by rw [ltS] at *;simp at *;omega
noncomputable def xFy:List AV→List Box→Option (Bool×AV×List Box)
 | [.osl (.b 0) ver 0 n,.func g []],[⟨ver',2,ty,xs,false,true⟩]=>match Nat.beq g 96&&Nat.beq ty 75 with
  | true=>some (Nat.beq ver ver'&&(Nat.beq n xs.length&&(decide (n<4611686018427387904)&&xs.all isS)),.tuple [],[⟨ver',2,75,srtS xs,false,true⟩])
  | false=>none
 | _,_=>none
theorem xOS:OmOk Tryz.prog ITryz 95 xFy:=fun ass H r H' h=>by
 unfold xFy at h
 split at h
 · rename_i ver n g ver' ty xs
   split at h
   case h_2=>simp at h
   rename_i hg
   simp only [Bool.and_eq_true] at hg
   obtain rfl:=Nat.eq_of_beq_eq_true hg.1
   obtain rfl:=Nat.eq_of_beq_eq_true hg.2
   simp only [Option.some.injEq,Prod.mk.injEq,Bool.and_eq_true,decide_eq_true_eq] at h
   obtain ⟨⟨h1,h2,h3,h4⟩,rfl,rfl⟩:=h
   obtain rfl:=Nat.eq_of_beq_eq_true h1
   obtain rfl:=Nat.eq_of_beq_eq_true h2
   have hti:∃ ti,tinfo Tryz.prog 75=some ti∧ti.sz=2∧ti.agg=true:=by
    have h:(match tinfo Tryz.prog 75 with|some ti=>(ti.sz==2)&&ti.agg|none=>false)=true:=by kernel_rfl
    split at h
    · rename_i ti hti
      simp only [Bool.and_eq_true,beq_iff_eq] at h
      exact ⟨ti,hti,h.1,h.2⟩
    · simp at h
   obtain ⟨ti,hti,hz,ha⟩:=hti
   have hgd:=xsi (P:=Tryz.prog) (Inv:=ITryz) Tryz.srl95 2 (by decide) (fun w=>by rw [←ha];exact xnB hti w) (fun w=>by rw [←hz];exact xeQ hti w)
    intsS (fun _=>rfl) cmpS swoS 96 (xee Tryz.func95 rfl (by kernel_rfl)) (xme (xee Tryz.func96 rfl (by kernel_rfl)))
    (fun x y W=>Tryz.walkS _ _ _ _ (cmpS x y) (by
     have:=x.1.isLt
     have:=y.1.isLt
     unfold cmpS
     exact xek (by omega) (by omega)) W)
    ver 75 rfl (xs.map decS) (by simpa using h3)
   rw [List.length_map,xMl h4] at hgd
   exact hgd
 · simp at h
end Go.Sim.M
namespace Go.Sim.M
abbrev TyP:Type:=Int×Int
def intsP (x:TyP):List Int:=[x.1,x.2]
def cmpP (x y:TyP):Int:=orI (cmpI x.1 y.1) (cmpI x.2 y.2)
end Go.Sim.M
namespace Go.Sim.M
open Go.RowKit Go.Proofs Go.Sort
def isP:AV→Bool
 | .agg [.int .i64 _,.int .i64 _]=>true
 | _=>false
def decP:AV→TyP
 | .agg [.int _ a,.int _ b]=>(a,b)
 | _=>default
noncomputable def srtP (xs:List AV):List AV:=(pdqL cmpP (xs.map decP)).map (encI intsP)
theorem xN6 {x:AV} (h:isP x=true):encI intsP (decP x)=x:=by
 unfold isP at h
 split at h
 · rfl
 · simp at h
theorem xMJ {xs:List AV} (h:xs.all isP=true):(xs.map decP).map (encI intsP)=xs:=by
 rw [List.map_map]
 conv=>rhs;rw [←List.map_id xs]
 refine List.map_congr_left fun x hx=>?_
 exact xN6 (List.all_eq_true.1 h x hx)
theorem ltP (x y:TyP):ltOf cmpP x y=decide (x.1<y.1∨x.1=y.1∧x.2<y.2):=by
 unfold ltOf cmpP orI cmpI
 by_cases h:x.1<y.1∨x.1=y.1∧x.2<y.2
 · rw [decide_eq_true h]
   simp only [decide_eq_true_eq]
   rcases h with h|⟨h,h'⟩
   · simp [h]
   · simp [h,h']
 · rw [decide_eq_false h]
   simp only [decide_eq_false_iff_not]
   have h1:¬ x.1<y.1:=fun e=>h (.inl e)
   by_cases h2:y.1<x.1
   · simp [h1,h2]
   · have h3:x.1=y.1:=by omega
     have h4:¬ x.2<y.2:=fun e=>h (.inr ⟨h3,e⟩)
     by_cases h5:y.2<x.2
     · simp [h1,h2,h4,h5]
     · simp [h1,h2,h4,h5]
theorem swoP:SWO (ltOf cmpP) where
 irrefl x:=by rw [ltP];simp
 trans x y z h1 h2:=by rw [ltP] at *;simp only [decide_eq_true_eq] at *;omega
 ntrans x y z h1 h2:=by rw [ltP] at *;simp only [decide_eq_true_eq,decide_eq_false_iff_not] at *;omega
noncomputable def xFn:List AV→List Box→Option (Bool×AV×List Box)
 | [.osl (.b 0) ver 0 n,.func g []],[⟨ver',2,ty,xs,false,true⟩]=>match Nat.beq g 70&&Nat.beq ty 31 with
  | true=>some (Nat.beq ver ver'&&(Nat.beq n xs.length&&(decide (n<4611686018427387904)&&xs.all isP)),.tuple [],[⟨ver',2,31,srtP xs,false,true⟩])
  | false=>none
 | _,_=>none
theorem xPD:OmOk Tryz.prog ITryz 69 xFn:=fun ass H r H' h=>by
 unfold xFn at h
 split at h
 · rename_i ver n g ver' ty xs
   split at h
   case h_2=>simp at h
   rename_i hg
   simp only [Bool.and_eq_true] at hg
   obtain rfl:=Nat.eq_of_beq_eq_true hg.1
   obtain rfl:=Nat.eq_of_beq_eq_true hg.2
   simp only [Option.some.injEq,Prod.mk.injEq,Bool.and_eq_true,decide_eq_true_eq] at h
   obtain ⟨⟨h1,h2,h3,h4⟩,rfl,rfl⟩:=h
   obtain rfl:=Nat.eq_of_beq_eq_true h1
   obtain rfl:=Nat.eq_of_beq_eq_true h2
   have hti:∃ ti,tinfo Tryz.prog 31=some ti∧ti.sz=2∧ti.agg=true:=by
    have h:(match tinfo Tryz.prog 31 with|some ti=>(ti.sz==2)&&ti.agg|none=>false)=true:=by kernel_rfl
    split at h
    · rename_i ti hti
      simp only [Bool.and_eq_true,beq_iff_eq] at h
      exact ⟨ti,hti,h.1,h.2⟩
    · simp at h
   obtain ⟨ti,hti,hz,ha⟩:=hti
   have hgd:=xsi (P:=Tryz.prog) (Inv:=ITryz) Tryz.srl69 2 (by decide) (fun w=>by rw [←ha];exact xnB hti w) (fun w=>by rw [←hz];exact xeQ hti w)
    intsP (fun _=>rfl) cmpP swoP 70 (xee Tryz.func69 rfl (by kernel_rfl)) (xme (xee Tryz.func70 rfl (by kernel_rfl)))
    (fun x y W=>Tryz.levels2_walk _ _ _ _ W)
    ver 31 rfl (xs.map decP) (by simpa using h3)
   rw [List.length_map,xMJ h4] at hgd
   exact hgd
 · simp at h
end Go.Sim.M
namespace Go.Sim.M
open Go.RowKit Go.Proofs Go.Sort
def isI:AV→Bool
 | .int .i64 _=>true
 | _=>false
noncomputable def srtI (xs:List AV):List AV:=(pdqL cmpI (xs.map AV.toInt)).map (AV.int .i64)
theorem xLj {xs:List AV} (h:xs.all isI=true):(xs.map AV.toInt).map (AV.int .i64)=xs:=by
 rw [List.map_map]
 conv=>rhs;rw [←List.map_id xs]
 refine List.map_congr_left fun x hx=>?_
 have:=List.all_eq_true.1 h x hx
 unfold isI at this
 split at this
 · rfl
 · simp at this
theorem ltI (x y:Int):ltOf cmpI x y=decide (x<y):=by
 unfold ltOf cmpI
 by_cases h:x<y
 · simp [h]
 · by_cases h2:y<x<;>simp [h,h2]
theorem swoI:SWO (ltOf cmpI) where
 irrefl x:=by rw [ltI];simp
 trans x y z h1 h2:=by rw [ltI] at *;simp at *;omega
 ntrans x y z h1 h2:=by rw [ltI] at *;simp at *;omega
noncomputable def xEY:List AV→List Box→Option (Bool×AV×List Box)
 | [.osl (.b 0) ver 0 n,.func g []],[⟨ver',1,ty,xs,false,true⟩]=>match Nat.beq g 54&&Nat.beq ty 3 with
  | true=>some (Nat.beq ver ver'&&(Nat.beq n xs.length&&(decide (n<4611686018427387904)&&xs.all isI)),.tuple [],[⟨ver',1,3,srtI xs,false,true⟩])
  | false=>none
 | _,_=>none
theorem xPe:OmOk Tryz.prog ITryz 53 xEY:=fun ass H r H' h=>by
 unfold xEY at h
 split at h
 · rename_i ver n g ver' ty xs
   split at h
   case h_2=>simp at h
   rename_i hg
   simp only [Bool.and_eq_true] at hg
   obtain rfl:=Nat.eq_of_beq_eq_true hg.1
   obtain rfl:=Nat.eq_of_beq_eq_true hg.2
   simp only [Option.some.injEq,Prod.mk.injEq,Bool.and_eq_true,decide_eq_true_eq] at h
   obtain ⟨⟨h1,h2,h3,h4⟩,rfl,rfl⟩:=h
   obtain rfl:=Nat.eq_of_beq_eq_true h1
   obtain rfl:=Nat.eq_of_beq_eq_true h2
   have hgd:=xEI (P:=Tryz.prog) (Inv:=ITryz) Tryz.srl53 cmpI swoI 54 (xee Tryz.func53 rfl (by kernel_rfl)) (xme (xee Tryz.func54 rfl (by kernel_rfl)))
    (fun x y W=>(Tryz.cmp_walk x y W).mono fun e w' ⟨h1,h2⟩=>⟨h1,0,#[],by rw [h2];exact (grow_empty _).symm⟩)
    ver 3 rfl (xs.map AV.toInt) (by simpa using h3)
   rw [List.length_map,xLj h4] at hgd
   exact hgd
 · simp at h
end Go.Sim.M
end
noncomputable section
namespace Go.Sim.M
open Go.RowKit Go.Proofs
noncomputable def E1:Env:=(((EKG.withM 129 xEP).withM 95 xFy).withM 69 xFn).withM 53 xEY
theorem xOJ:OrcOk Tryz.prog ITryz E1:=(((xP7.withM xOY).withM xOS).withM xPD).withM xPe
end Go.Sim.M
end
noncomputable section
set_option maxRecDepth 100000
namespace Go.Sim.M
open Go.IntKind (i64 u64 u8)
open Go.RowKit Go.Proofs
def xmo:Env:=E1.fn 29 1 (lsOf []) (lpsOf [])
theorem xD0:OrcOk Tryz.prog (ITryz.at 1) xmo:=xOJ.fn
theorem xA4:LoOk Tryz.prog (ITryz.at xmo.pin) xmo (Tryz.f97.body.getD .skip):=xaq (by kernel_rfl)
def xuT {T:Type} (k:Nat) (b n:Int) (a:LA) (δ:T) (κ:Bool×(Nat×LA)×(Nat×LA)→T):T:=br (decide ((↑k:Int)>0)) (br (decide (0≤i64.wrap ((↑k:Int) - 1))&&decide (i64.wrap ((↑k:Int) - 1)<(↑k:Int))) (br (decide (0+(i64.wrap ((↑k:Int) - 1)).toNat<a.length)&&hasSh1 (Sh.int .i64) ((a.getD (0+(i64.wrap ((↑k:Int) - 1)).toNat) .top).cells.getD 1 .top)) (br (((a.getD (0+(i64.wrap ((↑k:Int) - 1)).toNat) .top).cells.getD 1 .top).toInt==n) (κ (true,(k,a),(0,[]))) (br (k==a.length&&(decide ((k+1)*16≤140737488355328)&&decide (k+1≤4611686018427387904))) (κ (false,(0,[]),(k+1,a++[AV.agg [AV.int .i64 b,AV.int .i64 n]]))) δ)) δ) δ) (br (k==a.length&&(decide ((k+1)*16≤140737488355328)&&decide (k+1≤4611686018427387904))) (κ (false,(0,[]),(k+1,a++[AV.agg [AV.int .i64 b,AV.int .i64 n]]))) δ)
def xeV (k:Nat) (a n:Int) (b:LA):Option (Bool×(Nat×LA)×(Nat×LA)):=xuT k a n b none some
theorem xI8 (k:Nat) (a n:Int) (xs:LA):Enc (fun (p:Bool×(Nat×LA)×(Nat×LA))=>((br p.1 ((AV.osl 0 0 0 p.2.1.1,([⟨0,2,75,p.2.1.2,false,true⟩]:List Box))) ((AV.osl 0 1 0 p.2.2.1,([⟨1,2,75,p.2.2.2,false,true⟩]:List Box)))):(AV×List Box))) (xeV k a n xs) (XFM Tryz.prog xmo Tryz.f97 (Tryz.f97.body.getD .skip) [AV.osl (0:Id) 0 0 k,AV.int .i64 a,AV.int .i64 n] [{ ver:=0,sz:=2,ty:=(75:TypeId),xs:=xs,frz:=false,pm:=true }]):=by
 refine eV (xuT k a n xs none (fun (p:Bool×(Nat×LA)×(Nat×LA))=>some ((br p.1 ((AV.osl 0 0 0 p.2.1.1,([⟨0,2,75,p.2.1.2,false,true⟩]:List Box))) ((AV.osl 0 1 0 p.2.2.1,([⟨1,2,75,p.2.2.2,false,true⟩]:List Box)))):(AV×List Box)))) (by kernel_rfl) ?_;unfold xeV xuT;repeat' first|exact eN|exact eS rfl|apply eB
def xBS:LA→List Box→Option (Bool×AV×List Box):=omOf (sCons (sEq (pOsl 0 0 0)) (sCons (sEq (pInt .i64)) (sCons (sEq (pInt .i64)) sNil))) (pCons (pBox 0 2 (75:TypeId) false true pAny) pNil) fun (k,(a,(n,_))) (b,_)=>((xeV k a n b).isSome,(AV.osl 0 1 0 (br ((xeV k a n b).getD (false,(0,[]),(0,[]))).1 ((xeV k a n b).getD (false,(0,[]),(0,[]))).2.1.1 ((xeV k a n b).getD (false,(0,[]),(0,[]))).2.2.1),([⟨1,2,75,(br ((xeV k a n b).getD (false,(0,[]),(0,[]))).1 ((xeV k a n b).getD (false,(0,[]),(0,[]))).2.1.2 ((xeV k a n b).getD (false,(0,[]),(0,[]))).2.2.2),false,true⟩]:List Box)))
theorem xJa:OmOk Tryz.prog ITryz 97 (xBS):=xfP fun e f j i g=>by
 obtain ⟨k,⟨b,⟨n,_⟩⟩⟩:=e
 obtain ⟨h,_⟩:=f
 obtain ⟨c,a⟩:=Prod.mk.inj g
 have hx:=xI8 _ _ _ _ _ (xab (d:=(false,(0,[]),(0,[]))) c)
 revert hx a
 generalize ((xeV k b n h).getD (false,(0,[]),(0,[])))=p
 intro a hx
 obtain ⟨rfl,rfl⟩:=Prod.mk.inj a
 obtain ⟨t,⟨l,m⟩,o,q⟩:=p
 have hg:GoodM Tryz.prog ITryz 97 _ _ _ _:=xdq (p:=xmo.pin) (xdV mxTryz (inv0Ok Tryz.prog _) rfl xD0 rfl Tryz.func97 rfl (by kernel_rfl) xA4 hx)
 cases t
 · exact hg
 · exact GoodM.bump1 rfl (by decide) hg
def xtk:Env:=E1.withM 97 xBS
theorem xo4:OrcOk Tryz.prog ITryz xtk:=xOJ.withM xJa
def xlT:Env:=xtk.fn 106 0 (lsOf []) (lpsOf [])
theorem xET:OrcOk Tryz.prog (ITryz.at 0) xlT:=xo4.fn
theorem xzO:LoOk Tryz.prog (ITryz.at xlT.pin) xlT (loopAt Tryz.f72 0):=xaq (by kernel_rfl)
def xlA {T:Type} (d:LA) (e:Int) (a:Nat) (c:Int) (b:LA) (δ:T) (κl:(Nat×Int×LA)→T) (κr:(Nat×LA)→T):T:=br (decide (c<e)) (br (decide (0≤c)&&decide (c<d.length)) (br (decide (c.toNat<d.length)&&((d.getD c.toNat .top).cells.length==3&&hasShs [Sh.int .i64,Sh.int .i64,Sh.int .i64] (d.getD c.toNat .top).cells 0)) (br (xf7 ((d.getD c.toNat .top).cells.getD 0 .top).toInt ((d.getD c.toNat .top).cells.getD 1 .top).toInt) (br (a==b.length&&(decide ((a+2)*16≤140737488355328)&&decide (a+2≤4611686018427387904))) (κl (a+2,i64.wrap (c+1),b++[AV.agg [AV.int .i64 ((d.getD c.toNat .top).cells.getD 0 .top).toInt,AV.int .i64 ((d.getD c.toNat .top).cells.getD 2 .top).toInt],AV.agg [AV.int .i64 ((d.getD c.toNat .top).cells.getD 1 .top).toInt,AV.int .i64 (i64.wrap (0 - ((d.getD c.toNat .top).cells.getD 2 .top).toInt))]])) δ) (κl (a,i64.wrap (c+1),b))) δ) δ) (κr (a,b))
def xdF (c:LA) (d:Int):(Nat×Int×LA)→Option ((Nat×Int×LA)⊕(Nat×LA)):=fun (b,e,a)=>xlA c d b e a none (fun s=>some (.inl s)) (fun p=>some (.inr p))
def xjw (c:LA) (d:Int):(Nat×Int×LA)→LA×List Box:=fun (b,e,a)=>([AV.osl 0 0 0 b,AV.list 3 c,AV.int .i64 d,AV.int .i64 e],[⟨0,2,75,a,false,true⟩])
def xhY (a:LA) (b:Int):(Nat×LA)→LR:=fun p=>(.leaf (.exit 0) [AV.osl 0 0 0 p.1] [⟨0,2,75,p.2,false,true⟩])
abbrev xGQ (a:LA) (H:List Box):=XR Tryz.prog xlT [3,10,11,12] [3] [(3,2,75)] (loopAt Tryz.f72 0) a H
theorem xGK (a:LA) (b:Int) (s:Nat×Int×LA):Enc (encR (xjw a b) (xhY a b)) (xdF a b s) (xGQ (xjw a b s).1 (xjw a b s).2):=by
 obtain ⟨d,e,c⟩:=s
 refine eV (xlA a b d e c none (fun s=>some (encR (xjw a b) (xhY a b) (.inl s))) (fun p=>some (encR (xjw a b) (xhY a b) (.inr p)))) (by kernel_rfl) ?_;unfold xdF xlA;repeat' first|exact eN|exact eS rfl|apply eB
def xld:Lp:=lpOf [3,10,11,12] [3] [(3,2,75)] (pCons (pOsl 0 0 0) (pCons (pList 3 pAny) (pCons (pInt .i64) (pCons (pInt .i64) pNil)))) (pCons (pBox 0 2 75 false true pAny) pNil) fun (b,(c,(d,(e,_)))) (a,_)=>((Iter (xdF c d) (b,e,a)).isSome,xhY c d ((Iter (xdF c d) (b,e,a)).getD (0,[])))
theorem xDQ:LoopOk Tryz.prog (ITryz.at xlT.pin) xlT.nt (loopAt Tryz.f72 0) xld:=xaY fun g h j i=>by
 obtain ⟨b,⟨c,⟨d,⟨e,_⟩⟩⟩⟩:=g
 obtain ⟨a,_⟩:=h
 obtain ⟨f,rfl⟩:=Prod.mk.inj i
 exact xaG mxTryz (inv0Ok Tryz.prog _) rfl xET xzO (xjw c d) (xhY c d) (fun p=>by simp only [xhY,LR.eval];first|(simp;done)|(repeat' split<;>simp)) (xGK c d) (s:=(b,e,a)) (xab f)
def xlQ:Env:=xtk.fn 106 0 (lsOf []) (lpsOf [(3,xld)])
theorem xFp:OrcOk Tryz.prog (ITryz.at 0) xlQ:=xo4.fn
theorem xyO:LoOk Tryz.prog (ITryz.at xlQ.pin) xlQ (loopAt Tryz.f72 1):=xaq (by kernel_rfl)
def xvO (i:Int) (a:LA):=decide (0+i.toNat<a.length)
def xr8 {T:Type} (b e:Nat) (d i:Int) (a c:LA) (δ:T) (κl:(Int×Int×LA×LA)→T) (κr:(Int×Int×LA×LA)→T):T:=br (decide (i<(↑b:Int))) (br (decide (0≤i)&&decide (i<(↑b:Int))) (br (xvO i a&&hasSh1 (Sh.int .i64) ((a.getD (0+i.toNat) .top).cells.getD 0 .top)) (br (((a.getD (0+i.toNat) .top).cells.getD 0 .top).toInt==0) (br (decide (0≤i)&&decide (i<(↑b:Int))) (br (xvO i a&&hasSh1 (Sh.int .i64) ((a.getD (0+i.toNat) .top).cells.getD 1 .top)) (κl (i64.wrap (d+((a.getD (0+i.toNat) .top).cells.getD 1 .top).toInt),i64.wrap (i+1),a,c)) δ) δ) (κr (d,i,a,c))) δ) δ) (κr (d,i,a,c))
def xfF (b d:Nat):(Int×Int×LA×LA)→Option ((Int×Int×LA×LA)⊕(Int×Int×LA×LA)):=fun (e,i,a,c)=>xr8 b d e i a c none (fun s=>some (.inl s)) (fun p=>some (.inr p))
def xju (b d:Nat):(Int×Int×LA×LA)→LA×List Box:=fun (e,i,a,c)=>([AV.osl 0 0 0 b,AV.osl 1 0 0 d,AV.int .i64 e,AV.int .i64 i],[⟨0,2,75,a,false,true⟩,⟨0,2,75,c,false,true⟩])
def xhO (a b:Nat):(Int×Int×LA×LA)→LR:=fun p=>(.leaf (.exit 2) [AV.osl 0 0 0 a,AV.osl 1 0 0 b,AV.int .i64 p.1,AV.int .i64 p.2.1] [⟨0,2,75,p.2.2.1,false,true⟩,⟨0,2,75,p.2.2.2,false,true⟩])
abbrev xGy (a:LA) (H:List Box):=XR Tryz.prog xlQ [3,6,7,8] [3,6,7,8] [(3,2,75),(6,2,75)] (loopAt Tryz.f72 1) a H
theorem xGS (a b:Nat) (s:Int×Int×LA×LA):Enc (encR (xju a b) (xhO a b)) (xfF a b s) (xGy (xju a b s).1 (xju a b s).2):=by
 obtain ⟨e,i,c,d⟩:=s
 refine eV (xr8 a b e i c d none (fun s=>some (encR (xju a b) (xhO a b) (.inl s))) (fun p=>some (encR (xju a b) (xhO a b) (.inr p)))) (by kernel_rfl) ?_;unfold xfF xr8;repeat' first|exact eN|exact eS rfl|apply eB
def xne:Lp:=lpOf [3,6,7,8] [3,6,7,8] [(3,2,75),(6,2,75)] (pCons (pOsl 0 0 0) (pCons (pOsl 1 0 0) (pCons (pInt .i64) (pCons (pInt .i64) pNil)))) (pCons (pBox 0 2 75 false true pAny) (pCons (pBox 0 2 75 false true pAny) pNil)) fun (a,(c,(e,(i,_)))) (b,(d,_))=>((Iter (xfF a c) (e,i,b,d)).isSome,xhO a c ((Iter (xfF a c) (e,i,b,d)).getD (0,0,[],[])))
theorem xDi:LoopOk Tryz.prog (ITryz.at xlQ.pin) xlQ.nt (loopAt Tryz.f72 1) xne:=xaY fun g h k j=>by
 obtain ⟨a,⟨b,⟨e,⟨i,_⟩⟩⟩⟩:=g
 obtain ⟨c,⟨d,_⟩⟩:=h
 obtain ⟨f,rfl⟩:=Prod.mk.inj j
 exact xaG mxTryz (inv0Ok Tryz.prog _) rfl xFp xyO (xju a b) (xhO a b) (fun p=>by simp only [xhO,LR.eval];first|(simp;done)|(repeat' split<;>simp)) (xGS a b) (s:=(e,i,c,d)) (xab f)
def xlL:Env:=xtk.fn 106 0 (lsOf []) (lpsOf [(3,xld),(11,xne)])
theorem xFo:OrcOk Tryz.prog (ITryz.at 0) xlL:=xo4.fn
theorem xAk:LoOk Tryz.prog (ITryz.at xlL.pin) xlL (loopAt Tryz.f72 3):=xaq (by kernel_rfl)
def xkX (i:Int) (a:LA):=decide (0+i.toNat<a.length)
def xjy {T:Type} (b f:Nat) (e d i:Int) (a c:LA) (δ:T) (κl:(Int×Int×LA×LA)→T) (κr:(Int×Int×LA×LA)→T):T:=br (decide (i<(↑b:Int))) (br (decide (0≤i)&&decide (i<(↑b:Int))) (br (xkX i a&&hasSh1 (Sh.int .i64) ((a.getD (0+i.toNat) .top).cells.getD 0 .top)) (br (((a.getD (0+i.toNat) .top).cells.getD 0 .top).toInt==e) (br (decide (0≤i)&&decide (i<(↑b:Int))) (br (xkX i a&&hasSh1 (Sh.int .i64) ((a.getD (0+i.toNat) .top).cells.getD 1 .top)) (κl (i64.wrap (d+((a.getD (0+i.toNat) .top).cells.getD 1 .top).toInt),i64.wrap (i+1),a,c)) δ) δ) (κr (d,i,a,c))) δ) δ) (κr (d,i,a,c))
def xc8 (b d:Nat) (e:Int):(Int×Int×LA×LA)→Option ((Int×Int×LA×LA)⊕(Int×Int×LA×LA)):=fun (f,i,a,c)=>xjy b d e f i a c none (fun s=>some (.inl s)) (fun p=>some (.inr p))
def xjs (b d:Nat) (e:Int):(Int×Int×LA×LA)→LA×List Box:=fun (f,i,a,c)=>([AV.osl 0 0 0 b,AV.osl 1 0 0 d,AV.int .i64 f,AV.int .i64 i,AV.int .i64 e],[⟨0,2,75,a,false,true⟩,⟨0,2,75,c,false,true⟩])
def xhG (a b:Nat) (c:Int):(Int×Int×LA×LA)→LR:=fun p=>(.leaf (.exit 6) [AV.osl 0 0 0 a,AV.osl 1 0 0 b,AV.int .i64 p.1,AV.int .i64 p.2.1,AV.int .i64 c] [⟨0,2,75,p.2.2.1,false,true⟩,⟨0,2,75,p.2.2.2,false,true⟩])
abbrev xGr (a:LA) (H:List Box):=XR Tryz.prog xlL [3,6,7,8,9] [3,6,7,8,9] [(3,2,75),(6,2,75)] (loopAt Tryz.f72 3) a H
theorem xGp (a b:Nat) (c:Int) (s:Int×Int×LA×LA):Enc (encR (xjs a b c) (xhG a b c)) (xc8 a b c s) (xGr (xjs a b c s).1 (xjs a b c s).2):=by
 obtain ⟨f,i,d,e⟩:=s
 refine eV (xjy a b c f i d e none (fun s=>some (encR (xjs a b c) (xhG a b c) (.inl s))) (fun p=>some (encR (xjs a b c) (xhG a b c) (.inr p)))) (by kernel_rfl) ?_;unfold xc8 xjy;repeat' first|exact eN|exact eS rfl|apply eB
def xq3:Lp:=lpOf [3,6,7,8,9] [3,6,7,8,9] [(3,2,75),(6,2,75)] (pCons (pOsl 0 0 0) (pCons (pOsl 1 0 0) (pCons (pInt .i64) (pCons (pInt .i64) (pCons (pInt .i64) pNil))))) (pCons (pBox 0 2 75 false true pAny) (pCons (pBox 0 2 75 false true pAny) pNil)) fun (a,(c,(f,(i,(e,_))))) (b,(d,_))=>((Iter (xc8 a c e) (f,i,b,d)).isSome,xhG a c e ((Iter (xc8 a c e) (f,i,b,d)).getD (0,0,[],[])))
theorem xub:LoopOk Tryz.prog (ITryz.at xlL.pin) xlL.nt (loopAt Tryz.f72 3) xq3:=xaY fun h j l k=>by
 obtain ⟨a,⟨b,⟨f,⟨i,⟨d,_⟩⟩⟩⟩⟩:=h
 obtain ⟨c,⟨e,_⟩⟩:=j
 obtain ⟨g,rfl⟩:=Prod.mk.inj k
 exact xaG mxTryz (inv0Ok Tryz.prog _) rfl xFo xAk (xjs a b d) (xhG a b d) (fun p=>by simp only [xhG,LR.eval];first|(simp;done)|(repeat' split<;>simp)) (xGp a b d) (s:=(f,i,c,e)) (xab g)
def xlR:Env:=xtk.fn 106 0 (lsOf []) (lpsOf [(3,xld),(11,xne),(17,xq3)])
theorem xEU:OrcOk Tryz.prog (ITryz.at 0) xlR:=xo4.fn
theorem xzf:LoOk Tryz.prog (ITryz.at xlR.pin) xlR (loopAt Tryz.f72 2):=xaP (ls:=[loopAt Tryz.f72 3]) (by kernel_rfl) (lkC xub lkN)
def xj4 (i:Int) (a:LA):=decide (0+i.toNat<a.length)&&hasSh1 (Sh.int .i64) ((a.getD (0+i.toNat) .top).cells.getD 0 .top)
def xhx (i:Int) (a:LA):=((a.getD (0+i.toNat) .top).cells.getD 0 .top).toInt
def xjK (b d:Nat) (e i:Int) (a c:LA):=Iter (xc8 b d (xhx i a)) (e,i,a,c)
def xli (b d:Nat) (e i:Int) (a c:LA):=(xjK b d e i a c).getD (0,0,[],[])
def xkJ (b d:Nat) (e i:Int) (a c:LA):=(xli b d e i a c).fst
def xkN (b d:Nat) (e i:Int) (a c:LA):=(xli b d e i a c).snd
def xkx (b d:Nat) (e i:Int) (a c:LA):=(xkN b d e i a c).snd
def xlh (b c:Nat) (e i:Int) (a d:LA):=xeV c (xhx i a) (xkJ b c e i a d) (xkx b c e i a d).snd
def xkL (b d:Nat) (e i:Int) (a c:LA):=(xlh b d e i a c).getD (false,(0,[]),0,[])
def xkT (b d:Nat) (e i:Int) (a c:LA):=(xkL b d e i a c).fst
def xkI (b d:Nat) (e i:Int) (a c:LA):=(xkL b d e i a c).snd
def xk5 (b d:Nat) (e i:Int) (a c:LA):=(xkI b d e i a c).fst
def xkK (b d:Nat) (e i:Int) (a c:LA):=(xkI b d e i a c).snd
def xjv {T:Type} (b d:Nat) (e i:Int) (a c:LA) (δ:T) (κl:(Nat×Int×Int×LA×LA)→T) (κr:(Nat×LA)→T):T:=br (decide (i<(↑b:Int))) (br (decide (0≤i)&&decide (i<(↑b:Int))) (br (xj4 i a) (br (decide (xhx i a<1099511627776)) (br (decide (0≤i)&&decide (i<(↑b:Int))) (br (xj4 i a) (br ((xjK b d e i a c).isSome) (br ((xlh b d e i a c).isSome) (κl (br (xkT b d e i a c) (xk5 b d e i a c).fst (xkK b d e i a c).fst,xkJ b d e i a c,(xkN b d e i a c).fst,(xkx b d e i a c).fst,br (xkT b d e i a c) (xk5 b d e i a c).snd (xkK b d e i a c).snd)) δ) δ) δ) δ) (κr (d,c))) δ) δ) (κr (d,c))
def xdE (b:Nat):(Nat×Int×Int×LA×LA)→Option ((Nat×Int×Int×LA×LA)⊕(Nat×LA)):=fun (d,e,i,a,c)=>xjv b d e i a c none (fun s=>some (.inl s)) (fun p=>some (.inr p))
def xjn (b:Nat):(Nat×Int×Int×LA×LA)→LA×List Box:=fun (d,e,i,a,c)=>([AV.osl 0 0 0 b,AV.osl 1 0 0 d,AV.int .i64 e,AV.int .i64 i],[⟨0,2,75,a,false,true⟩,⟨0,2,75,c,false,true⟩])
def xhC (a:Nat):(Nat×LA)→LR:=fun p=>(.leaf (.exit 4) [AV.osl 0 0 0 p.1] [⟨0,2,75,p.2,false,true⟩])
abbrev xGX (a:LA) (H:List Box):=XR Tryz.prog xlR [3,6,7,8] [6] [(3,2,75),(6,2,75)] (loopAt Tryz.f72 2) a H
theorem xGO (a:Nat) (s:Nat×Int×Int×LA×LA):Enc (encR (xjn a) (xhC a)) (xdE a s) (xGX (xjn a s).1 (xjn a s).2):=by
 obtain ⟨d,e,i,b,c⟩:=s
 refine eV (xjv a d e i b c none (fun s=>some (encR (xjn a) (xhC a) (.inl s))) (fun p=>some (encR (xjn a) (xhC a) (.inr p)))) (by kernel_rfl) ?_;unfold xdE xjv;repeat' first|exact eN|exact eS rfl|apply eB
def xvc:Lp:=lpOf [3,6,7,8] [6] [(3,2,75),(6,2,75)] (pCons (pOsl 0 0 0) (pCons (pOsl 1 0 0) (pCons (pInt .i64) (pCons (pInt .i64) pNil)))) (pCons (pBox 0 2 75 false true pAny) (pCons (pBox 0 2 75 false true pAny) pNil)) fun (a,(d,(e,(i,_)))) (b,(c,_))=>((Iter (xdE a) (d,e,i,b,c)).isSome,xhC a ((Iter (xdE a) (d,e,i,b,c)).getD (0,[])))
theorem xD8:LoopOk Tryz.prog (ITryz.at xlR.pin) xlR.nt (loopAt Tryz.f72 2) xvc:=xaY fun g h k j=>by
 obtain ⟨a,⟨d,⟨e,⟨i,_⟩⟩⟩⟩:=g
 obtain ⟨b,⟨c,_⟩⟩:=h
 obtain ⟨f,rfl⟩:=Prod.mk.inj j
 exact xaG mxTryz (inv0Ok Tryz.prog _) rfl xEU xzf (xjn a) (xhC a) (fun p=>by simp only [xhC,LR.eval];first|(simp;done)|(repeat' split<;>simp)) (xGO a) (s:=(d,e,i,b,c)) (xab f)
def xob:Env:=xtk.fn 106 0 (lsOf []) (lpsOf [(3,xld),(11,xne),(17,xq3),(15,xvc)])
theorem xE5:OrcOk Tryz.prog (ITryz.at 0) xob:=xo4.fn
theorem xCu:LoOk Tryz.prog (ITryz.at xob.pin) xob (Tryz.f72.body.getD .skip):=xaP (ls:=[loopAt Tryz.f72 0,loopAt Tryz.f72 1,loopAt Tryz.f72 2,loopAt Tryz.f72 3]) (by kernel_rfl) (lkC xDQ (lkC xDi (lkC xD8 (lkC xub lkN))))
def xte (l:LA):=(Iter (xdF l (↑l.length:Int)) (0,0,[])).getD (0,[])
def xmi (l:LA):=(xte l).fst
def xpK (l:LA):=(xte l).snd
def xsY (l:LA):=Iter (xfF (xmi l) 0) (0,0,srtS (xpK l),[])
def xs5 (l:LA):=(xsY l).getD (0,0,[],[])
def xtn (l:LA):=(xs5 l).fst
def xs1 (l:LA):=(xs5 l).snd
def xto (l:LA):=(xs1 l).snd
def xu1 (l:LA):=xeV 0 0 (xtn l) (xto l).snd
def xut (l:LA):=(xu1 l).getD (false,(0,[]),0,[])
def xuS (l:LA):=(xut l).fst
def xuZ (l:LA):=(xut l).snd
def xup (l:LA):=(xuZ l).snd
def xuU (l:LA):=(xuZ l).fst
def xui (l:LA):=Iter (xdE (xmi l)) (br (xuS l) (xuU l).fst (xup l).fst,xtn l,(xs1 l).fst,(xto l).fst,br (xuS l) (xuU l).snd (xup l).snd)
def xum (l:LA):=(xui l).getD (0,[])
def xun (l:LA):=(xum l).snd
def xuE (l:LA):=(xum l).fst
def xsE {T:Type} (l:LA) (δ:T) (κ:LA→T):T:=br ((Iter (xdF l (↑l.length:Int)) (0,0,[])).isSome) (br ((xmi l).beq (xpK l).length&&(decide (xmi l<4611686018427387904)&&(xpK l).all isS)) (br ((xsY l).isSome) (br ((xu1 l).isSome) (br ((xui l).isSome) (br (decide (0+xuE l≤(xun l).length)&&true) (κ (List.take (xuE l) (List.drop 0 (xun l)))) δ) δ) δ) δ) δ) δ
def xm4 (l:LA):Option (LA):=xsE l none some
theorem xK9 (l:LA):Enc (fun (p:LA)=>((AV.list 2 p):AV)) (xm4 l) (XF Tryz.prog xob Tryz.f72 (Tryz.f72.body.getD .skip) [AV.list 3 l]):=by
 refine eV (xsE l none (fun (p:LA)=>some ((AV.list 2 p):AV))) (by kernel_rfl) ?_;unfold xm4 xsE;repeat' first|exact eN|exact eS rfl|apply eB
def xD5:LA→Option (Bool×AV):=ocOf (sCons (sList 3 pAny) sNil) fun (l,_)=>((xm4 l).isSome,(AV.list 2 ((xm4 l).getD [])))
theorem xKF:OcOk Tryz.prog ITryz 72 (xD5):=xaN fun c f e=>by
 obtain ⟨l,_⟩:=c
 obtain ⟨a,b⟩:=Prod.mk.inj e
 refine xaH (p:=xob.pin) (xaL mxTryz (inv0Ok Tryz.prog _) rfl xE5 Tryz.func72 rfl (by kernel_rfl) xCu ((xK9 _ _ (xab (d:=[]) a)).trans ?_))
 exact congrArg some b
def xCx:Env:=xtk.with 72 xD5
theorem xyW:OrcOk Tryz.prog ITryz xCx:=xo4.with xKF
def xfq:Env:=xCx.fn 20 0 (lsOf []) (lpsOf [])
theorem xuW:OrcOk Tryz.prog (ITryz.at 0) xfq:=xyW.fn
theorem xr5:LoOk Tryz.prog (ITryz.at xfq.pin) xfq (loopAt Tryz.f45 0):=xaq (by kernel_rfl)
def xfJ {T:Type} (d:LA) (e:Int) (b:Nat) (a:Int) (c:LA) (δ:T) (κl:(Nat×Int×LA)→T) (κr:(Nat×LA)→T):T:=br (decide (a<e)) (br (decide (0≤a)&&decide (a<d.length)) (br (decide (a.toNat<d.length)&&((d.getD a.toNat .top).cells.length==2&&hasShs [Sh.int .i64,Sh.int .i64] (d.getD a.toNat .top).cells 0)) (br (b==c.length&&(decide ((b+1)*24≤140737488355328)&&decide (b+1≤4611686018427387904))) (κl (b+1,i64.wrap (a+1),c++[AV.agg [AV.int .i64 ((d.getD a.toNat .top).cells.getD 0 .top).toInt,AV.int .i64 ((d.getD a.toNat .top).cells.getD 1 .top).toInt,AV.int .i64 1]])) δ) δ) δ) (κr (b,c))
def xbw (c:LA) (d:Int):(Nat×Int×LA)→Option ((Nat×Int×LA)⊕(Nat×LA)):=fun (b,e,a)=>xfJ c d b e a none (fun s=>some (.inl s)) (fun p=>some (.inr p))
def xea (c:LA) (d:Int):(Nat×Int×LA)→LA×List Box:=fun (b,e,a)=>([AV.osl 0 0 0 b,AV.list 2 c,AV.int .i64 d,AV.int .i64 e],[⟨0,3,78,a,false,true⟩])
def xdz (a:LA) (b:Int):(Nat×LA)→LR:=fun p=>(.leaf (.exit 0) [AV.osl 0 0 0 p.1] [⟨0,3,78,p.2,false,true⟩])
abbrev xvW (a:LA) (H:List Box):=XR Tryz.prog xfq [3,6,7,8] [3] [(3,3,78)] (loopAt Tryz.f45 0) a H
theorem xvT (a:LA) (b:Int) (s:Nat×Int×LA):Enc (encR (xea a b) (xdz a b)) (xbw a b s) (xvW (xea a b s).1 (xea a b s).2):=by
 obtain ⟨d,e,c⟩:=s
 refine eV (xfJ a b d e c none (fun s=>some (encR (xea a b) (xdz a b) (.inl s))) (fun p=>some (encR (xea a b) (xdz a b) (.inr p)))) (by kernel_rfl) ?_;unfold xbw xfJ;repeat' first|exact eN|exact eS rfl|apply eB
def xnx:Lp:=lpOf [3,6,7,8] [3] [(3,3,78)] (pCons (pOsl 0 0 0) (pCons (pList 2 pAny) (pCons (pInt .i64) (pCons (pInt .i64) pNil)))) (pCons (pBox 0 3 78 false true pAny) pNil) fun (b,(c,(d,(e,_)))) (a,_)=>((Iter (xbw c d) (b,e,a)).isSome,xdz c d ((Iter (xbw c d) (b,e,a)).getD (0,[])))
theorem xtA:LoopOk Tryz.prog (ITryz.at xfq.pin) xfq.nt (loopAt Tryz.f45 0) xnx:=xaY fun f g j h=>by
 obtain ⟨d,⟨a,⟨b,⟨i,_⟩⟩⟩⟩:=f
 obtain ⟨c,_⟩:=g
 obtain ⟨e,rfl⟩:=Prod.mk.inj h
 exact xaG mxTryz (inv0Ok Tryz.prog _) rfl xuW xr5 (xea a b) (xdz a b) (fun p=>by simp only [xdz,LR.eval];first|(simp;done)|(repeat' split<;>simp)) (xvT a b) (s:=(d,i,c)) (xab e)
def xgS:Env:=xCx.fn 20 0 (lsOf []) (lpsOf [(3,xnx)])
theorem xu0:OrcOk Tryz.prog (ITryz.at 0) xgS:=xyW.fn
theorem xsP:LoOk Tryz.prog (ITryz.at xgS.pin) xgS (Tryz.f45.body.getD .skip):=xaP (ls:=[loopAt Tryz.f45 0]) (by kernel_rfl) (lkC xtA lkN)
def xlx (l:LA):=(Iter (xbw l (↑l.length:Int)) (0,0,[])).getD (0,[])
def xl4 (l:LA):=(xlx l).snd
def xlX (l:LA):=(xlx l).fst
def xlV (l:LA):=xm4 (List.take (xlX l) (List.drop 0 (xl4 l)))
def xjM {T:Type} (l:LA) (δ:T) (κ:LA→T):T:=br ((Iter (xbw l (↑l.length:Int)) (0,0,[])).isSome) (br (decide (0+xlX l≤(xl4 l).length)&&true) (br ((xlV l).isSome) (κ ((xlV l).getD [])) δ) δ) δ
def xc9 (l:LA):Option (LA):=xjM l none some
theorem xzG (l:LA):Enc (fun (p:LA)=>((AV.list 2 p):AV)) (xc9 l) (XF Tryz.prog xgS Tryz.f45 (Tryz.f45.body.getD .skip) [AV.list 2 l]):=by
 refine eV (xjM l none (fun (p:LA)=>some ((AV.list 2 p):AV))) (by kernel_rfl) ?_;unfold xc9 xjM;repeat' first|exact eN|exact eS rfl|apply eB
def xrD:LA→Option (Bool×AV):=ocOf (sCons (sList 2 pAny) sNil) fun (l,_)=>((xc9 l).isSome,(AV.list 2 ((xc9 l).getD [])))
theorem xAp:OcOk Tryz.prog ITryz 45 (xrD):=xaN fun c f e=>by
 obtain ⟨l,_⟩:=c
 obtain ⟨a,b⟩:=Prod.mk.inj e
 refine xaH (p:=xgS.pin) (xaL mxTryz (inv0Ok Tryz.prog _) rfl xu0 Tryz.func45 rfl (by kernel_rfl) xsP ((xzG _ _ (xab (d:=[]) a)).trans ?_))
 exact congrArg some b
def xMp:Env:=xCx.with 45 xrD
theorem xNa:OrcOk Tryz.prog ITryz xMp:=xyW.with xAp
abbrev EKP1:Env:=xMp
theorem xAt:OrcOk Tryz.prog ITryz EKP1:=xNa
end Go.Sim.M
end
noncomputable section
set_option maxRecDepth 100000
namespace Go.Sim.M
open Go.IntKind (i64 u64 u8)
open Go.RowKit Go.Proofs
def xjk:Env:=EKP1.fn 71 5 (lsOf []) (lpsOf [])
theorem xCK:OrcOk Tryz.prog (ITryz.at 5) xjk:=xAt.fn
theorem xwD:LoOk Tryz.prog (ITryz.at xjk.pin) xjk (loopAt Tryz.f68 1):=xaq (by kernel_rfl)
def xjN {T:Type} (o n:Int) (f g:Nat) (k p m j:Int) (i l d h a:Nat) (b:LA) (e:Nat) (c:LA) (δ:T) (κl:(Int×Int×Nat×Nat×Nat×Nat×Nat×LA×Nat×LA)→T) (κr:(Int×Nat×Nat×Nat×Nat×LA×Nat×LA×Nat)→T):T:=br (decide (m<p)) (br (a==f) (br (a==f) (br (a==f&&(decide (g<b.length)&&hasSh1 (Sh.int .i64) ((b.getD g .top).cells.getD 0 .top))) (br (e==h&&(d==c.length&&(decide ((d+1)*16≤140737488355328)&&decide (d+1≤4611686018427387904)))) (κl (i64.wrap (m+1),j,i,l,d+1,h+1,a,List.take i b,h+1,c++[AV.agg [AV.int .i64 ((b.getD g .top).cells.getD 0 .top).toInt,AV.int .i64 o]])) δ) δ) δ) δ) (κr (j,l,i,h,d,b,a,c,e))
def xcB (m n:Int) (e f:Nat) (k o:Int):(Int×Int×Nat×Nat×Nat×Nat×Nat×LA×Nat×LA)→Option ((Int×Int×Nat×Nat×Nat×Nat×Nat×LA×Nat×LA)⊕(Int×Nat×Nat×Nat×Nat×LA×Nat×LA×Nat)):=fun (q,g,h,i,j,l,a,b,c,d)=>xjN m n e f k o q g h i j l a b c d none (fun s=>some (.inl s)) (fun p=>some (.inr p))
def xhE (m n:Int) (e f:Nat) (k o:Int):(Int×Int×Nat×Nat×Nat×Nat×Nat×LA×Nat×LA)→LA×List Box:=fun (p,g,h,i,j,l,a,b,c,d)=>([AV.int .i64 m,AV.int .i64 n,AV.own 0 0 0 0,AV.own 1 0 0 0,AV.own 2 0 0 0,AV.own 3 e f 0,AV.int .i64 k,AV.int .i64 o,AV.int .i64 p],[⟨0,1,3,[AV.int .i64 g],false,true⟩,⟨0,1,84,[AV.osl 3 i 0 h],false,false⟩,⟨0,1,53,[AV.osl 4 l 0 j],false,false⟩,⟨a,2,86,b,false,true⟩,⟨c,2,31,d,false,true⟩])
def xgE (c n:Int) (a b:Nat) (k d:Int):(Int×Nat×Nat×Nat×Nat×LA×Nat×LA×Nat)→LR:=fun p=>(.leaf (.exit 2) [AV.int .i64 c,AV.int .i64 n,AV.own 0 0 0 0,AV.own 1 0 0 0,AV.own 2 0 0 0,AV.own 3 a b 0,AV.int .i64 k] [⟨0,1,3,[AV.int .i64 p.1],false,true⟩,⟨0,1,84,[AV.osl 3 p.2.1 0 p.2.2.1],false,false⟩,⟨0,1,53,[AV.osl 4 p.2.2.2.1 0 p.2.2.2.2.1],false,false⟩,⟨p.2.2.2.2.2.2.1,2,86,p.2.2.2.2.2.1,false,true⟩,⟨p.2.2.2.2.2.2.2.2,2,31,p.2.2.2.2.2.2.2.1,false,true⟩])
abbrev xDu (a:LA) (H:List Box):=XR Tryz.prog xjk [0,1,2,3,4,7,8,37,38] [0,1,2,3,4,7,8] [(3,0,0)] (loopAt Tryz.f68 1) a H
theorem xCY (c n:Int) (a b:Nat) (k d:Int) (s:Int×Int×Nat×Nat×Nat×Nat×Nat×LA×Nat×LA):Enc (encR (xhE c n a b k d) (xgE c n a b k d)) (xcB c n a b k d s) (xDu (xhE c n a b k d s).1 (xhE c n a b k d s).2):=by
 obtain ⟨q,i,j,l,m,o,e,f,g,h⟩:=s
 refine eV (xjN c n a b k d q i j l m o e f g h none (fun s=>some (encR (xhE c n a b k d) (xgE c n a b k d) (.inl s))) (fun p=>some (encR (xhE c n a b k d) (xgE c n a b k d) (.inr p)))) (by kernel_rfl) ?_;unfold xcB xjN;repeat' first|exact eN|exact eS rfl|apply eB
def xoS:Lp:=lpOf [0,1,2,3,4,7,8,37,38] [0,1,2,3,4,7,8] [(3,0,0)] (pCons (pInt .i64) (pCons (pInt .i64) (pCons (pOwn 0 0 0 0) (pCons (pOwn 1 0 0 0) (pCons (pOwn 2 0 0 0) (pCons (pOwnV 3 0) (pCons (pInt .i64) (pCons (pInt .i64) (pCons (pInt .i64) pNil))))))))) (pCons (pBox 0 1 3 false true (pCons (pInt .i64) pNil)) (pCons (pBox 0 1 84 false false (pCons (pOslV 3 0) pNil)) (pCons (pBox 0 1 53 false false (pCons (pOslV 4 0) pNil)) (pCons (pBoxV 2 86 false true pAny) (pCons (pBoxV 2 31 false true pAny) pNil))))) fun (g,(n,(_,(_,(_,((e,f),(k,(h,(p,_))))))))) ((i,_),(((j,l),_),(((m,o),_),((a,b),((c,d),_)))))=>((Iter (xcB g n e f k h) (p,i,l,j,o,m,a,b,c,d)).isSome,xgE g n e f k h ((Iter (xcB g n e f k h) (p,i,l,j,o,m,a,b,c,d)).getD (0,0,0,0,0,[],0,[],0)))
theorem xsq:LoopOk Tryz.prog (ITryz.at xjk.pin) xjk.nt (loopAt Tryz.f68 1) xoS:=xaY fun t u w v=>by
 obtain ⟨g,⟨n,⟨_,⟨_,⟨_,⟨⟨a,b⟩,⟨k,⟨h,⟨q,_⟩⟩⟩⟩⟩⟩⟩⟩⟩:=t
 obtain ⟨⟨i,_⟩,⟨⟨⟨j,l⟩,_⟩,⟨⟨⟨m,o⟩,_⟩,⟨⟨c,d⟩,⟨⟨e,f⟩,_⟩⟩⟩⟩⟩:=u
 obtain ⟨r,rfl⟩:=Prod.mk.inj v
 exact xaG mxTryz (inv0Ok Tryz.prog _) rfl xCK xwD (xhE g n a b k h) (xgE g n a b k h) (fun p=>by simp only [xgE,LR.eval];first|(simp;done)|(repeat' split<;>simp)) (xCY g n a b k h) (s:=(q,i,l,j,o,m,c,d,e,f)) (xab r)
def xjt:Env:=EKP1.fn 71 5 (lsOf []) (lpsOf [(7,xoS)])
theorem xCE:OrcOk Tryz.prog (ITryz.at 5) xjt:=xAt.fn
theorem xwC:LoOk Tryz.prog (ITryz.at xjt.pin) xjt (loopAt Tryz.f68 0):=xaP (ls:=[loopAt Tryz.f68 1]) (by kernel_rfl) (lkC xsq lkN)
def xbA (a:Nat):Nat:=0+(i64.wrap ((↑a:Int) - 1)).toNat
def xeR (n b:Int) (c d:Nat) (a:LA):Int:=if i64.wrap (b - n)<((a.getD (xbA c) .top).cells.getD 1 .top).toInt then i64.wrap (b - n) else ((a.getD (xbA c) .top).cells.getD 1 .top).toInt
def xkH (j n d:Int) (c g h i a:Nat) (b:LA) (e:Nat) (f:LA):=Iter (xcB j n g (xbA c) (xeR n d c a b) (xeR n d c a b)) (0,d,c,g,h,i,a,List.take c b,e,f)
def xib (j n e:Int) (f g h i a:Nat) (b:LA) (c:Nat) (d:LA):=(xkH j n e f g h i a b c d).getD (0,0,0,0,0,[],0,[],0)
def xkF (j n e:Int) (f g h i a:Nat) (b:LA) (c:Nat) (d:LA):=(xib j n e f g h i a b c d).snd
def xg2 (j n e:Int) (f g h i a:Nat) (b:LA) (c:Nat) (d:LA):=(xkF j n e f g h i a b c d).fst
def xkC (j n e:Int) (f g h i a:Nat) (b:LA) (c:Nat) (d:LA):=(xkF j n e f g h i a b c d).snd
def xhc (j n e:Int) (f g h i a:Nat) (b:LA) (c:Nat) (d:LA):=(xkC j n e f g h i a b c d).fst
def xh6 (j n e:Int) (f g h i a:Nat) (b:LA) (c:Nat) (d:LA):=(xkC j n e f g h i a b c d).snd
def xhf (j n e:Int) (f g h i a:Nat) (b:LA) (c:Nat) (d:LA):=i64.wrap ((↑(xhc j n e f g h i a b c d):Int) - 1)
def xii (j n e:Int) (f g h i a:Nat) (b:LA) (c:Nat) (d:LA):=(xh6 j n e f g h i a b c d).snd
def xkB (j n e:Int) (f g h i a:Nat) (b:LA) (c:Nat) (d:LA):=(xii j n e f g h i a b c d).snd
def xiP (j n e:Int) (f g h i a:Nat) (b:LA) (c:Nat) (d:LA):=(xkB j n e f g h i a b c d).fst
def xls (j n e:Int) (f g h i a:Nat) (b:LA) (c:Nat) (d:LA):=(xkB j n e f g h i a b c d).snd
def xeo (j n f:Int) (g e h i a:Nat) (b:LA) (c:Nat) (d:LA):=(xls j n f g e h i a b c d).fst==e
def xlr (j n f:Int) (e g h i a:Nat) (b:LA) (c:Nat) (d:LA):=decide (xbA e<(xiP j n f e g h i a b c d).length)
def xgx (j n f:Int) (e g h i a:Nat) (b:LA) (c:Nat) (d:LA):=((xiP j n f e g h i a b c d).getD (xbA e) .top).cells
def xg3 (j n e:Int) (f g h i a:Nat) (b:LA) (c:Nat) (d:LA):=(xls j n e f g h i a b c d).snd
def xfG (j n f:Int) (e g h i a:Nat) (b:LA) (c:Nat) (d:LA):=(xiP j n f e g h i a b c d).set (xbA e) (AV.agg (List.take 1 (xgx j n f e g h i a b c d)++[AV.int .i64 (i64.wrap (((xgx j n f e g h i a b c d).getD 1 .top).toInt - xeR n f e a b))]++List.drop 2 (xgx j n f e g h i a b c d)))
def xf0 {T:Type} (j n g:Int) (f e h i a:Nat) (b:LA) (c:Nat) (d:LA) (δ:T) (κl:(Int×Nat×Nat×Nat×Nat×Nat×LA×Nat×LA)→T) (κr:(Int×Nat×Nat×Nat×Nat×LA×Nat×LA×Nat)→T):T:=br (decide (g>n)) (br (a==e) (br (a==e&&(decide (0≤i64.wrap ((↑f:Int) - 1))&&decide (i64.wrap ((↑f:Int) - 1)<(↑f:Int)))) (br (a==e) (br (a==e) (br (a==e&&(decide (xbA f<b.length)&&hasSh1 (Sh.int .i64) ((b.getD (xbA f) .top).cells.getD 1 .top))) (br ((xkH j n g f e h i a b c d).isSome) (br (xeo j n g f e h i a b c d) (br (xeo j n g f e h i a b c d) (br (xeo j n g f e h i a b c d&&(xlr j n g f e h i a b c d&&hasSh1 (Sh.int .i64) ((xgx j n g f e h i a b c d).getD 1 .top))) (br (xeo j n g f e h i a b c d) (br (xeo j n g f e h i a b c d) (br (xeo j n g f e h i a b c d&&xlr j n g f e h i a b c d) (br (e==e) (br (e==e) (br (e==e&&(decide (xbA f<(xfG j n g f e h i a b c d).length)&&hasSh1 (Sh.int .i64) (((xfG j n g f e h i a b c d).getD (xbA f) .top).cells.getD 1 .top))) (br ((((xfG j n g f e h i a b c d).getD (xbA f) .top).cells.getD 1 .top).toInt==0) (br (e==xg2 j n g f e h i a b c d) (br (e==xg2 j n g f e h i a b c d&&(decide (0≤xhf j n g f e h i a b c d)&&decide (xhf j n g f e h i a b c d≤(↑(xhc j n g f e h i a b c d):Int))&&true)) (κl (i64.wrap ((xib j n g f e h i a b c d).fst - xeR n g f a b),(xhf j n g f e h i a b c d).toNat - 0,xg2 j n g f e h i a b c d,(xii j n g f e h i a b c d).fst,(xh6 j n g f e h i a b c d).fst,e,List.take ((xhf j n g f e h i a b c d).toNat - 0) (xfG j n g f e h i a b c d),(xg3 j n g f e h i a b c d).snd,(xg3 j n g f e h i a b c d).fst)) δ) δ) (κl (i64.wrap ((xib j n g f e h i a b c d).fst - xeR n g f a b),xhc j n g f e h i a b c d,xg2 j n g f e h i a b c d,(xii j n g f e h i a b c d).fst,(xh6 j n g f e h i a b c d).fst,e,List.take (xhc j n g f e h i a b c d) (xfG j n g f e h i a b c d),(xg3 j n g f e h i a b c d).snd,(xg3 j n g f e h i a b c d).fst))) δ) δ) δ) δ) δ) δ) δ) δ) δ) δ) δ) δ) δ) δ) δ) (κr (g,e,f,i,h,b,a,d,c))
def xb3 (j n:Int):(Int×Nat×Nat×Nat×Nat×Nat×LA×Nat×LA)→Option ((Int×Nat×Nat×Nat×Nat×Nat×LA×Nat×LA)⊕(Int×Nat×Nat×Nat×Nat×LA×Nat×LA×Nat)):=fun (e,f,g,h,i,a,b,c,d)=>xf0 j n e f g h i a b c d none (fun s=>some (.inl s)) (fun p=>some (.inr p))
def xhL (j n:Int):(Int×Nat×Nat×Nat×Nat×Nat×LA×Nat×LA)→LA×List Box:=fun (e,f,g,h,i,a,b,c,d)=>([AV.int .i64 j,AV.int .i64 n,AV.own 0 0 0 0,AV.own 1 0 0 0,AV.own 2 0 0 0],[⟨0,1,3,[AV.int .i64 e],false,true⟩,⟨0,1,84,[AV.osl 3 g 0 f],false,false⟩,⟨0,1,53,[AV.osl 4 i 0 h],false,false⟩,⟨a,2,86,b,false,true⟩,⟨c,2,31,d,false,true⟩])
def xgo (a n:Int):(Int×Nat×Nat×Nat×Nat×LA×Nat×LA×Nat)→LR:=fun p=>(.leaf (.exit 0) [] [⟨0,1,3,[AV.int .i64 p.1],false,true⟩,⟨0,1,84,[AV.osl 3 p.2.1 0 p.2.2.1],false,false⟩,⟨0,1,53,[AV.osl 4 p.2.2.2.1 0 p.2.2.2.2.1],false,false⟩,⟨p.2.2.2.2.2.2.1,2,86,p.2.2.2.2.2.1,false,true⟩,⟨p.2.2.2.2.2.2.2.2,2,31,p.2.2.2.2.2.2.2.1,false,true⟩])
abbrev xDn (a:LA) (H:List Box):=XR Tryz.prog xjt [0,1,2,3,4] [] [(3,0,0)] (loopAt Tryz.f68 0) a H
theorem xC2 (a n:Int) (s:Int×Nat×Nat×Nat×Nat×Nat×LA×Nat×LA):Enc (encR (xhL a n) (xgo a n)) (xb3 a n s) (xDn (xhL a n s).1 (xhL a n s).2):=by
 obtain ⟨f,g,h,i,j,b,c,d,e⟩:=s
 refine eV (xf0 a n f g h i j b c d e none (fun s=>some (encR (xhL a n) (xgo a n) (.inl s))) (fun p=>some (encR (xhL a n) (xgo a n) (.inr p)))) (by kernel_rfl) ?_;unfold xb3 xf0;repeat' first|exact eN|exact eS rfl|apply eB
def xsO:Lp:=lpOf [0,1,2,3,4] [] [(3,0,0)] (pCons (pInt .i64) (pCons (pInt .i64) (pCons (pOwn 0 0 0 0) (pCons (pOwn 1 0 0 0) (pCons (pOwn 2 0 0 0) pNil))))) (pCons (pBox 0 1 3 false true (pCons (pInt .i64) pNil)) (pCons (pBox 0 1 84 false false (pCons (pOslV 3 0) pNil)) (pCons (pBox 0 1 53 false false (pCons (pOslV 4 0) pNil)) (pCons (pBoxV 2 86 false true pAny) (pCons (pBoxV 2 31 false true pAny) pNil))))) fun (e,(n,(_,(_,(_,_))))) ((f,_),(((g,h),_),(((i,j),_),((a,b),((c,d),_)))))=>((Iter (xb3 e n) (f,h,g,j,i,a,b,c,d)).isSome,xgo e n ((Iter (xb3 e n) (f,h,g,j,i,a,b,c,d)).getD (0,0,0,0,0,[],0,[],0)))
theorem xBf:LoopOk Tryz.prog (ITryz.at xjt.pin) xjt.nt (loopAt Tryz.f68 0) xsO:=xaY fun l m q o=>by
 obtain ⟨e,⟨n,⟨_,⟨_,⟨_,_⟩⟩⟩⟩⟩:=l
 obtain ⟨⟨f,_⟩,⟨⟨⟨g,h⟩,_⟩,⟨⟨⟨i,j⟩,_⟩,⟨⟨a,b⟩,⟨⟨c,d⟩,_⟩⟩⟩⟩⟩:=m
 obtain ⟨k,rfl⟩:=Prod.mk.inj o
 exact xaG mxTryz (inv0Ok Tryz.prog _) rfl xCE xwC (xhL e n) (xgo e n) (fun p=>by simp only [xgo,LR.eval];first|(simp;done)|(repeat' split<;>simp)) (xC2 e n) (s:=(f,h,g,j,i,a,b,c,d)) (xab k)
def xlw:Env:=EKP1.fn 71 5 (lsOf []) (lpsOf [(7,xoS),(3,xsO)])
theorem xCs:OrcOk Tryz.prog (ITryz.at 5) xlw:=xAt.fn
theorem xAl:LoOk Tryz.prog (ITryz.at xlw.pin) xlw (Tryz.f68.body.getD .skip):=xaP (ls:=[loopAt Tryz.f68 0,loopAt Tryz.f68 1]) (by kernel_rfl) (lkC xBf (lkC xsq lkN))
def xnf (a n h:Int) (b c:Nat) (d e:LA):=Iter (xb3 a n) (n,b+1,1,c,0,1,List.take (b+1) (d++[AV.agg [AV.int .i64 a,AV.int .i64 (i64.wrap (n - h))]]),0,e)
def xna (a n h:Int) (b c:Nat) (d e:LA):=Iter (xb3 a n) (h,b,0,c,0,0,List.take b d,0,e)
def xnh (a n h:Int) (b c:Nat) (d e:LA):=(xnf a n h b c d e).getD (0,0,0,0,0,[],0,[],0)
def xnl (a n h:Int) (b c:Nat) (d e:LA):=(xna a n h b c d e).getD (0,0,0,0,0,[],0,[],0)
def xog (a n h:Int) (b c:Nat) (d e:LA):=(xnh a n h b c d e).snd
def xno (a n h:Int) (b c:Nat) (d e:LA):=(xnl a n h b c d e).snd
def xow (a n h:Int) (b c:Nat) (d e:LA):=(xog a n h b c d e).snd
def xnz (a n h:Int) (b c:Nat) (d e:LA):=(xno a n h b c d e).snd
def xot (a n h:Int) (b c:Nat) (d e:LA):=(xow a n h b c d e).snd
def xm5 (a n h:Int) (b c:Nat) (d e:LA):=(xnz a n h b c d e).snd
def xov (a n h:Int) (b c:Nat) (d e:LA):=(xot a n h b c d e).snd
def xnu (a n h:Int) (b c:Nat) (d e:LA):=(xm5 a n h b c d e).snd
def xom (a n h:Int) (b c:Nat) (d e:LA):=(xov a n h b c d e).snd
def xoz (a n h:Int) (b c:Nat) (d e:LA):=(xnu a n h b c d e).snd
def xon (a n h:Int) (b c:Nat) (d e:LA):=(xom a n h b c d e).snd
def xoy (a n h:Int) (b c:Nat) (d e:LA):=(xoz a n h b c d e).snd
def xor (a n h:Int) (b c:Nat) (d e:LA):=(xon a n h b c d e).snd
def xou (a n h:Int) (b c:Nat) (d e:LA):=(xoy a n h b c d e).snd
def xmw {T:Type} (a n h:Int) (b d:Nat) (c e:LA) (δ:T) (κ:Int×Nat×Nat×Nat×Nat×LA×Nat×LA×Nat→T):T:=br (decide (n>h)) (br (b==c.length&&(decide ((b+1)*16≤140737488355328)&&decide (b+1≤4611686018427387904))) (br ((xnf a n h b d c e).isSome) (κ ((xnh a n h b d c e).fst,(xog a n h b d c e).fst,(xow a n h b d c e).fst,(xot a n h b d c e).fst,(xov a n h b d c e).fst,(xom a n h b d c e).fst,(xon a n h b d c e).fst,(xor a n h b d c e).fst,(xor a n h b d c e).snd)) δ) δ) (br ((xna a n h b d c e).isSome) (κ ((xnl a n h b d c e).fst,(xno a n h b d c e).fst,(xnz a n h b d c e).fst,(xm5 a n h b d c e).fst,(xnu a n h b d c e).fst,(xoz a n h b d c e).fst,(xoy a n h b d c e).fst,(xou a n h b d c e).fst,(xou a n h b d c e).snd)) δ)
def xng (a n h:Int) (b c:Nat) (d e:LA):Option (Int×Nat×Nat×Nat×Nat×LA×Nat×LA×Nat):=xmw a n h b c d e none some
theorem xHb (a n h:Int) (b c:Nat) (d e:LA):Enc (fun (p:Int×Nat×Nat×Nat×Nat×LA×Nat×LA×Nat)=>(((AV.tuple [],([⟨0,1,3,[AV.int .i64 p.1],false,true⟩,⟨0,1,84,[AV.osl 3 p.2.1 0 p.2.2.1],false,false⟩,⟨0,1,53,[AV.osl 4 p.2.2.2.1 0 p.2.2.2.2.1],false,false⟩,⟨p.2.2.2.2.2.2.1,2,86,p.2.2.2.2.2.1,false,true⟩,⟨p.2.2.2.2.2.2.2.2,2,31,p.2.2.2.2.2.2.2.1,false,true⟩]:List Box))):(AV×List Box))) (xng a n h b c d e) (XFM Tryz.prog xlw Tryz.f68 (Tryz.f68.body.getD .skip) [AV.int .i64 a,AV.int .i64 n,AV.own (0:Id) 0 0 0,AV.own (1:Id) 0 0 0,AV.own (2:Id) 0 0 0] [{ ver:=0,sz:=1,ty:=(3:TypeId),xs:=[AV.int .i64 h],frz:=false,pm:=true },{ ver:=0,sz:=1,ty:=(84:TypeId),xs:=[AV.osl (3:Id) 0 0 b],frz:=false,pm:=false },{ ver:=0,sz:=1,ty:=(53:TypeId),xs:=[AV.osl (4:Id) 0 0 c],frz:=false,pm:=false },{ ver:=0,sz:=2,ty:=(86:TypeId),xs:=d,frz:=false,pm:=true },{ ver:=0,sz:=2,ty:=(31:TypeId),xs:=e,frz:=false,pm:=true }]):=by
 refine eV (xmw a n h b c d e none (fun (p:Int×Nat×Nat×Nat×Nat×LA×Nat×LA×Nat)=>some (((AV.tuple [],([⟨0,1,3,[AV.int .i64 p.1],false,true⟩,⟨0,1,84,[AV.osl 3 p.2.1 0 p.2.2.1],false,false⟩,⟨0,1,53,[AV.osl 4 p.2.2.2.1 0 p.2.2.2.2.1],false,false⟩,⟨p.2.2.2.2.2.2.1,2,86,p.2.2.2.2.2.1,false,true⟩,⟨p.2.2.2.2.2.2.2.2,2,31,p.2.2.2.2.2.2.2.1,false,true⟩]:List Box))):(AV×List Box)))) (by kernel_rfl) ?_;unfold xng xmw;repeat' first|exact eN|exact eS rfl|apply eB
end Go.Sim.M
end
noncomputable section
set_option maxRecDepth 100000
namespace Go.Sim
open Go.RowKit
theorem GoodM.aged {P:Program} {Inv:IV} {f:FuncId} {args:List AV} {H:List Box} {x0:AV} {v3 v4 k3 k4 t0 t1 t2 t3 t4 s3 s4:Nat} {xs3 xs4:List AV} (hlen:H.length=5) (hz3:∀ bx,H[3]?=some bx→bx.ver=0) (hz4:∀ bx,H[4]?=some bx→bx.ver=0)
  (p0:isC t0=false) (p1:isC t1=false) (p2:isC t2=false) (p3:isC t3=false) (p4:isC t4=false)
  (h:GoodM P Inv f args H (.tuple []) [⟨0,1,t0,[x0],false,true⟩,⟨0,1,t1,[.osl (.b 3) v3 0 k3],false,false⟩,⟨0,1,t2,[.osl (.b 4) v4 0 k4],false,false⟩,⟨v3,s3,t3,xs3,false,true⟩,⟨v4,s4,t4,xs4,false,true⟩]) :
  GoodM P Inv f args H (.tuple []) [⟨0,1,t0,[x0],false,true⟩,⟨0,1,t1,[.osl (.b 3) 1 0 k3],false,false⟩,⟨0,1,t2,[.osl (.b 4) 1 0 k4],false,false⟩,⟨1,s3,t3,xs3,false,true⟩,⟨1,s4,t4,xs4,false,true⟩]:=by
 refine ⟨h.1,fun w0 w A M vs hI hB hR hrc=>(h.2 w0 w A M vs hI hB hR hrc).mono ?_⟩
 rintro e w' ⟨u,A',M',rfl,h1,h2,h3,h4,h5⟩
 let M'':Id→Option MB:=fun id=>if id=.b 3∨id=.b 4 then (M' id).map fun m=>⟨m.b,1,m.sz,m.cap,m.ty⟩ else M' id
 have e3:∀ m,M' (.b 3)=some m→M'' (.b 3)=some ⟨m.b,1,m.sz,m.cap,m.ty⟩:=fun m hm=>by simp [M'',hm]
 have e4:∀ m,M' (.b 4)=some m→M'' (.b 4)=some ⟨m.b,1,m.sz,m.cap,m.ty⟩:=fun m hm=>by
  show (if (Id.b 4=.b 3∨Id.b 4=.b 4) then _ else _)=_
  rw [if_pos (.inr rfl),hm];rfl
 have eo:∀ id,id≠.b 3→id≠.b 4→M'' id=M' id:=fun id g1 g2=>by
  show (if _ then _ else _)=_
  rw [if_neg (fun e=>e.elim g1 g2)]
 have hsrc:∀ id m1,M'' id=some m1→∃ m0,M' id=some m0∧m1.b=m0.b∧m1.cap=m0.cap∧m1.sz=m0.sz∧m1.ty=m0.ty:=fun id m1 hm1=>by
  by_cases g3:id=.b 3
  · subst g3
    cases hm:M' (.b 3) with
    | none=>simp [M'',hm] at hm1
    | some m=>rw [e3 m hm] at hm1;simp only [Option.some.injEq] at hm1;subst hm1;exact ⟨m,rfl,rfl,rfl,rfl,rfl⟩
  · by_cases g4:id=.b 4
    · subst g4
      cases hm:M' (.b 4) with
      | none =>
       have:M'' (.b 4)=none:=by
        show (if (Id.b 4=.b 3∨Id.b 4=.b 4) then _ else _)=_
        rw [if_pos (.inr rfl),hm];rfl
       rw [this] at hm1;cases hm1
      | some m=>rw [e4 m hm] at hm1;simp only [Option.some.injEq] at hm1;subst hm1;exact ⟨m,rfl,rfl,rfl,rfl,rfl⟩
    · rw [eo id g3 g4] at hm1
      exact ⟨m1,hm1,rfl,rfl,rfl,rfl⟩
 have hosl:∀ (n v k:Nat) (c:Value) (m:MB),M' (.b n)=some m→M'' (.b n)=some ⟨m.b,1,m.sz,m.cap,m.ty⟩→v=m.ver→Rel w' A' M' c (.osl (.b n) v 0 k)→Rel w' A' M'' c (.osl (.b n) 1 0 k):=fun n v k c m hm hm'' hv hr=>by
  obtain ⟨m0,g1,g2,g3,g4⟩:=Rel.osl_inv hr
  rw [hm] at g1
  simp only [Option.some.injEq] at g1
  subst g1
  exact .osl c (.b n) 1 0 k _ hm'' (Nat.le_refl _) g3 fun _=>g4 hv
 have hbox:∀ (n:Nat) (bx:Box) (m:MB),[⟨0,1,t0,[x0],false,true⟩,⟨0,1,t1,[.osl (.b 3) v3 0 k3],false,false⟩,⟨0,1,t2,[.osl (.b 4) v4 0 k4],false,false⟩,⟨v3,s3,t3,xs3,false,true⟩,⟨v4,s4,t4,xs4,false,true⟩][n]?=some bx→M' (.b n)=some m→BoxAt w' A' M' w0.heap.size (.b n) m bx:=fun n bx m hn hm=>by
  obtain ⟨bx',g1,g2⟩:=h4.box _ m hm
  rw [xdH,hn] at g1
  simp only [Option.some.injEq] at g1
  subst g1
  exact g2
 have hpure:∀ (id:Id) (bx:Box) (m:MB) (v:Nat),isC bx.ty=false→bx.pm=true→BoxAt w' A' M' w0.heap.size id m bx→BoxAt w' A' M'' w0.heap.size id ⟨m.b,v,m.sz,m.cap,m.ty⟩ ⟨v,bx.sz,bx.ty,bx.xs,bx.frz,bx.pm⟩:=fun id bx m v hpl hp g=>by
  have hnm:isMapT m.ty=false:=g.nomap (xcf hpl)
  refine ⟨rfl,g.sz,g.ty,g.capm,g.fits,g.ok,g.low,g.lt,fun h0=>?_,g.guard⟩
  obtain ⟨c,c1,c2,c3⟩:=g.cells h0
  refine ⟨c,.of hnm (c1.plain hnm),c2,fun i j hi hj=>?_⟩
  have:=c3 i j hi hj
  rw [xax hpl,xcg hpl,hp] at this
  rw [xax hpl,xcg (bx:=⟨v,bx.sz,bx.ty,bx.xs,bx.frz,bx.pm⟩) hpl]
  show Rel w' A' (MP M'' bx.pm) _ _
  rw [hp]
  exact this
 have hvar:∀ (n n2 v k t:Nat) (m m2:MB),isC t=false→n≠3→n≠4→BoxAt w' A' M' w0.heap.size (.b n) m ⟨0,1,t,[.osl (.b n2) v 0 k],false,false⟩→M' (.b n2)=some m2→M'' (.b n2)=some ⟨m2.b,1,m2.sz,m2.cap,m2.ty⟩→v=m2.ver →
   BoxAt w' A' M'' w0.heap.size (.b n) m ⟨0,1,t,[.osl (.b n2) 1 0 k],false,false⟩:=fun n n2 v k t m m2 hpl _ _ g hm2 hm2'' hv=>by
  have hnm:isMapT m.ty=false:=g.nomap (xcf hpl)
  have hsz:m.sz=1:=g.sz.symm
  refine ⟨g.ver,g.sz,g.ty,g.capm,g.fits,fun y hy=>?_,g.low,g.lt,fun h0=>?_,g.guard⟩
  · simp only [List.mem_singleton] at hy
    subst hy
    rw [hsz];rfl
  · obtain ⟨c,c1,c2,c3⟩:=g.cells h0
    refine ⟨c,.of hnm (c1.plain hnm),c2,fun i j hi hj=>?_⟩
    have hi0:i=0:=by simpa using hi
    have hj0:j=0:=by omega
    subst hi0 hj0
    have:=c3 0 0 (by simp) hj
    rw [xax hpl,xcg hpl] at this
    rw [xax hpl,xcg (bx:=⟨0,1,t,[.osl (.b n2) 1 0 k],false,false⟩) hpl]
    exact hosl n2 v k _ m2 hm2 hm2'' hv this
 have hm3:∀ m,M (.b 3)=some m→m.ver=0:=fun m hm=>by
  obtain ⟨bx,g1,g2⟩:=hR.box _ m hm
  rw [←g2.ver]
  exact hz3 bx g1
 have hm4:∀ m,M (.b 4)=some m→m.ver=0:=fun m hm=>by
  obtain ⟨bx,g1,g2⟩:=hR.box _ m hm
  rw [←g2.ver]
  exact hz4 bx g1
 have hver3:∀ m,M' (.b 3)=some m→v3=m.ver:=fun m hm=>(hbox 3 _ m rfl hm).ver
 have hver4:∀ m,M' (.b 4)=some m→v4=m.ver:=fun m hm=>(hbox 4 _ m rfl hm).ver
 have hrow:∀ n i j m,M' (.r n i j)=some m→BoxAt w' A' M' w0.heap.size (.r n i j) m tombB∧n<5:=fun n i j m hm=>by
  obtain ⟨bx,g1,g2⟩:=h4.box _ m hm
  obtain ⟨b0,q1,_⟩:=xp1 g1
  have hn:n<5:=by
   have:=xfu q1
   simpa using this
  have hp:isC b0.ty=false:=by
   match n,hn with
   | 0,_=>simp only [List.getElem?_cons_zero,Option.some.injEq] at q1;subst q1;exact p0
   | 1,_=>simp only [List.getElem?_cons_zero,List.getElem?_cons_succ,Option.some.injEq] at q1;subst q1;exact p1
   | 2,_=>simp only [List.getElem?_cons_zero,List.getElem?_cons_succ,Option.some.injEq] at q1;subst q1;exact p2
   | 3,_=>simp only [List.getElem?_cons_zero,List.getElem?_cons_succ,Option.some.injEq] at q1;subst q1;exact p3
   | 4,_=>simp only [List.getElem?_cons_zero,List.getElem?_cons_succ,Option.some.injEq] at q1;subst q1;exact p4
  rw [xes q1 hp] at g1
  simp only [Option.some.injEq] at g1
  subst g1
  exact ⟨g2,hn⟩
 have hR':HR w' A' M'' w0.heap.size [⟨0,1,t0,[x0],false,true⟩,⟨0,1,t1,[.osl (.b 3) 1 0 k3],false,false⟩,⟨0,1,t2,[.osl (.b 4) 1 0 k4],false,false⟩,⟨1,s3,t3,xs3,false,true⟩,⟨1,s4,t4,xs4,false,true⟩]:=by
  refine ⟨fun id m1 hm1=>?_,fun id id' m1 m2 k1 k2 c1 c2 he=>?_,h4.lt⟩
  · obtain ⟨m0,g1,g2,g3,g4,g5⟩:=hsrc id m1 hm1
    cases id with
    | r n i j =>
     rw [eo (.r n i j) (fun e=>by cases e) (fun e=>by cases e),g1] at hm1
     simp only [Option.some.injEq] at hm1
     subst hm1
     obtain ⟨q1,q2⟩:=hrow n i j _ g1
     refine ⟨tombB,?_,?_⟩
     · match n,q2 with
       | 0,_=>exact xes rfl p0
       | 1,_=>exact xes rfl p1
       | 2,_=>exact xes rfl p2
       | 3,_=>exact xes rfl p3
       | 4,_=>exact xes rfl p4
     · have hv:tombB.ver=m0.ver:=q1.ver
       have:=hpure (.r n i j) tombB m0 m0.ver rfl rfl q1
       exact ⟨q1.ver,this.sz,this.ty,this.capm,this.fits,this.ok,this.low,this.lt,this.cells,this.guard⟩
    | b n =>
     have hn:n<5:=by
      obtain ⟨bx,q1,_⟩:=h4.box _ m0 g1
      have:=xfu q1
      simpa using this
     match n,hn with
     | 0,_ =>
      rw [eo (.b 0) (fun e=>by cases e) (fun e=>by cases e),g1] at hm1
      simp only [Option.some.injEq] at hm1
      subst hm1
      have q:=hbox 0 _ m0 rfl g1
      have:=hpure (.b 0) _ m0 m0.ver p0 rfl q
      exact ⟨⟨0,1,t0,[x0],false,true⟩,rfl,q.ver,this.sz,this.ty,this.capm,this.fits,this.ok,this.low,this.lt,this.cells,this.guard⟩
     | 1,_ =>
      rw [eo (.b 1) (fun e=>by cases e) (fun e=>by cases e),g1] at hm1
      simp only [Option.some.injEq] at hm1
      subst hm1
      have q:=hbox 1 _ m0 rfl g1
      have hc:0<m0.cap:=Nat.lt_of_lt_of_le Nat.zero_lt_one q.fits
      obtain ⟨c,c1,c2,c3⟩:=q.cells hc
      have hr:=c3 0 0 (by simp) (by rw [←q.sz];exact Nat.zero_lt_one)
      rw [xax p1,xcg (bx:=⟨0,1,t1,[.osl (.b 3) v3 0 k3],false,false⟩) p1] at hr
      have hr:Rel w' A' M' _ (.osl (.b 3) v3 0 k3):=hr
      obtain ⟨m3,a1,_⟩:=Rel.osl_inv hr
      exact ⟨_,rfl,hvar 1 3 v3 k3 t1 m0 m3 p1 (by decide) (by decide) q a1 (e3 m3 a1) (hver3 m3 a1)⟩
     | 2,_ =>
      rw [eo (.b 2) (fun e=>by cases e) (fun e=>by cases e),g1] at hm1
      simp only [Option.some.injEq] at hm1
      subst hm1
      have q:=hbox 2 _ m0 rfl g1
      have hc:0<m0.cap:=Nat.lt_of_lt_of_le Nat.zero_lt_one q.fits
      obtain ⟨c,c1,c2,c3⟩:=q.cells hc
      have hr:=c3 0 0 (by simp) (by rw [←q.sz];exact Nat.zero_lt_one)
      rw [xax p2,xcg (bx:=⟨0,1,t2,[.osl (.b 4) v4 0 k4],false,false⟩) p2] at hr
      have hr:Rel w' A' M' _ (.osl (.b 4) v4 0 k4):=hr
      obtain ⟨m4,a1,_⟩:=Rel.osl_inv hr
      exact ⟨_,rfl,hvar 2 4 v4 k4 t2 m0 m4 p2 (by decide) (by decide) q a1 (e4 m4 a1) (hver4 m4 a1)⟩
     | 3,_ =>
      rw [e3 m0 g1] at hm1
      simp only [Option.some.injEq] at hm1
      subst hm1
      exact ⟨_,rfl,hpure (.b 3) _ m0 1 p3 rfl (hbox 3 _ m0 rfl g1)⟩
     | 4,_ =>
      rw [e4 m0 g1] at hm1
      simp only [Option.some.injEq] at hm1
      subst hm1
      exact ⟨_,rfl,hpure (.b 4) _ m0 1 p4 rfl (hbox 4 _ m0 rfl g1)⟩
  · obtain ⟨n1,a1,a2,a3,_⟩:=hsrc id m1 k1
    obtain ⟨n2,b1,b2,b3,_⟩:=hsrc id' m2 k2
    exact h4.inj id id' n1 n2 a1 b1 (by omega) (by omega) (by rw [←a2,←b2,he])
 refine ⟨u,A',M'',rfl,h1,h2,⟨h3.size,h3.keep,h3.less,h3.more,fun id m hid hm=>?_,fun id m1 hm1 h0=>?_⟩,hR',?_⟩
 · obtain ⟨m',g1,g2⟩:=h3.ids id m hid hm
   by_cases q3:id=.b 3
   · subst q3
     exact ⟨_,e3 m' g1,.inr (by have:m.ver=0:=hm3 m hm;show m.ver<1;omega)⟩
   · by_cases q4:id=.b 4
     · subst q4
       exact ⟨_,e4 m' g1,.inr (by have:m.ver=0:=hm4 m hm;show m.ver<1;omega)⟩
     · exact ⟨m',by rw [eo id q3 q4];exact g1,g2⟩
 · obtain ⟨m0,g1,g2,g3,_⟩:=hsrc id m1 hm1
   rw [g2]
   exact h3.src id m0 g1 (by omega)
 · obtain ⟨vs',rfl,q1,_⟩:=h5.tuple_inv
   exact .tuple vs' [] q1 (by simp)
namespace M
open Go.Proofs
noncomputable def set2 (at0 n h:Int) (ns no:Nat) (sx ox:List AV):Option (Int×Nat×Nat×List AV×List AV):=(xng at0 n h ns no sx ox).bind fun p =>
 br (Nat.beq p.2.1 p.2.2.2.2.2.2.1&&Nat.beq p.2.2.2.1 p.2.2.2.2.2.2.2.2) (some (p.1,p.2.2.1,p.2.2.2.2.1,p.2.2.2.2.2.1,p.2.2.2.2.2.2.2.1)) none
noncomputable def xLw:List AV→List Box→Option (Bool×AV×List Box):=omOf (sCons (sEq (pInt IntKind.i64)) (sCons (sEq (pInt IntKind.i64)) (sCons (sEq (pOwn 0 0 0 0)) (sCons (sEq (pOwn 1 0 0 0)) (sCons (sEq (pOwn 2 0 0 0)) sNil)))))
 (pCons (pBox 0 1 3 false true (pCons (pInt IntKind.i64) pNil)) (pCons (pBox 0 1 84 false false (pCons (pOsl 3 0 0) pNil)) (pCons (pBox 0 1 53 false false (pCons (pOsl 4 0 0) pNil)) (pCons (pBox 0 2 86 false true pAny) (pCons (pBox 0 2 31 false true pAny) pNil)))))
 fun (at0,(n,(_,(_,(_,_))))) ((h,_),((ns,_),((no,_),(sx,(ox,_)))))=>((set2 at0 n h ns no sx ox).isSome,(.tuple [],[⟨0,1,3,[.int .i64 ((set2 at0 n h ns no sx ox).getD (0,0,0,[],[])).1],false,true⟩,⟨0,1,84,[.osl (.b 3) 1 0 ((set2 at0 n h ns no sx ox).getD (0,0,0,[],[])).2.1],false,false⟩,⟨0,1,53,[.osl (.b 4) 1 0 ((set2 at0 n h ns no sx ox).getD (0,0,0,[],[])).2.2.1],false,false⟩,⟨1,2,86,((set2 at0 n h ns no sx ox).getD (0,0,0,[],[])).2.2.2.1,false,true⟩,⟨1,2,31,((set2 at0 n h ns no sx ox).getD (0,0,0,[],[])).2.2.2.2,false,true⟩]))
theorem xP9:OmOk Tryz.prog ITryz 68 xLw:=xfP fun vv bb rr hh' hh=>by
 obtain ⟨at0,⟨n,⟨_,⟨_,⟨_,_⟩⟩⟩⟩⟩:=vv
 obtain ⟨⟨h,_⟩,⟨⟨ns,_⟩,⟨⟨no,_⟩,⟨sx,⟨ox,_⟩⟩⟩⟩⟩:=bb
 obtain ⟨hh1,hh2⟩:=Prod.mk.inj hh
 cases hs:xng at0 n h ns no sx ox with
 | none=>rw [show set2 at0 n h ns no sx ox=none by unfold set2;rw [hs];rfl] at hh1;simp at hh1
 | some p =>
  have hs2:set2 at0 n h ns no sx ox=br (Nat.beq p.2.1 p.2.2.2.2.2.2.1&&Nat.beq p.2.2.2.1 p.2.2.2.2.2.2.2.2) (some (p.1,p.2.2.1,p.2.2.2.2.1,p.2.2.2.2.2.1,p.2.2.2.2.2.2.2.1)) none:=by unfold set2;rw [hs];rfl
  cases ht:Nat.beq p.2.1 p.2.2.2.2.2.2.1&&Nat.beq p.2.2.2.1 p.2.2.2.2.2.2.2.2 with
  | false=>rw [hs2,ht] at hh1;simp [br] at hh1
  | true =>
   rw [ht] at hs2
   have hs3:set2 at0 n h ns no sx ox=some (p.1,p.2.2.1,p.2.2.2.2.1,p.2.2.2.2.2.1,p.2.2.2.2.2.2.2.1):=hs2
   rw [hs3] at hh2
   simp only [Option.getD_some] at hh2
   simp only [Bool.and_eq_true] at ht
   have e1:=Nat.eq_of_beq_eq_true ht.1
   have e2:=Nat.eq_of_beq_eq_true ht.2
   have hx:=xHb at0 n h ns no sx ox p hs
   have hg:GoodM Tryz.prog ITryz 68 _ _ _ _:=xdq (p:=xlw.pin) (xdV mxTryz (inv0Ok Tryz.prog _) rfl xCs rfl Tryz.func68 rfl (by kernel_rfl) xAl hx)
   rw [←e1,←e2] at hg
   have hg2:=GoodM.aged rfl (fun bx hb=>by simp only [List.getElem?_cons_zero,List.getElem?_cons_succ,Option.some.injEq] at hb;subst hb;rfl) (fun bx hb=>by simp only [List.getElem?_cons_zero,List.getElem?_cons_succ,Option.some.injEq] at hb;subst hb;rfl) rfl rfl rfl rfl rfl hg
   obtain ⟨rfl,rfl⟩:=Prod.mk.inj hh2
   exact hg2
noncomputable def ESet:Env:=EKP1.withM 68 xLw
theorem xEZ:OrcOk Tryz.prog ITryz ESet:=xAt.withM xP9
end M
end Go.Sim
end
noncomputable section
set_option maxRecDepth 100000
namespace Go.Sim.M
open Go.IntKind (i64 u64 u8)
open Go.RowKit Go.Proofs
def xhN:Env:=ESet.fn 30 0 (lsOf []) (lpsOf [])
theorem xyT:OrcOk Tryz.prog (ITryz.at 0) xhN:=xEZ.fn
theorem xuv:LoOk Tryz.prog (ITryz.at xhN.pin) xhN (loopAt Tryz.f44 0):=xaq (by kernel_rfl)
def xmD (a:LA) (h b:Int) (f c:Nat) (g:Int) (d e:LA):Int:=if 0>((a.getD b.toNat .top).cells.getD 1 .top).toInt then 0 else ((a.getD b.toNat .top).cells.getD 1 .top).toInt
def xmG (f:LA) (h g:Int) (d a:Nat) (e:Int) (b c:LA):=set2 ((f.getD g.toNat .top).cells.getD 0 .top).toInt (if 1048576<xmD f h g d a e b c then 1048576 else xmD f h g d a e b c) e a d c b
def xmY (f:LA) (g h:Int) (d a:Nat) (e:Int) (b c:LA):=(xmG f g h d a e b c).getD (0,0,0,[],[])
def xmX (f:LA) (g h:Int) (d a:Nat) (e:Int) (b c:LA):=(xmY f g h d a e b c).snd
def xmx (f:LA) (g h:Int) (d a:Nat) (e:Int) (b c:LA):=(xmX f g h d a e b c).fst
def xmp (f:LA) (g h:Int) (d a:Nat) (e:Int) (b c:LA):=(xmX f g h d a e b c).snd
def xmA (f:LA) (g h:Int) (d a:Nat) (e:Int) (b c:LA):=(xmp f g h d a e b c).snd
def xh8 {T:Type} (f:LA) (h d:Int) (e a:Nat) (g:Int) (b c:LA) (δ:T) (κl:(Int×Nat×Nat×Int×LA×LA)→T) (κr:(Nat×Int×Nat×LA×LA)→T):T:=br (decide (d<h)) (br (decide (0≤d)&&decide (d<f.length)) (br (decide (d.toNat<f.length)&&((f.getD d.toNat .top).cells.length==2&&hasShs [Sh.int .i64,Sh.int .i64] (f.getD d.toNat .top).cells 0)) (br ((xmG f h d e a g b c).isSome) (κl (i64.wrap (d+1),(xmp f h d e a g b c).fst,xmx f h d e a g b c,(xmY f h d e a g b c).fst,(xmA f h d e a g b c).snd,List.take (xmx f h d e a g b c) (xmA f h d e a g b c).fst)) δ) δ) δ) (κr (e,g,a,b,c))
def xcv (f:LA) (g:Int):(Int×Nat×Nat×Int×LA×LA)→Option ((Int×Nat×Nat×Int×LA×LA)⊕(Nat×Int×Nat×LA×LA)):=fun (h,d,a,e,b,c)=>xh8 f g h d a e b c none (fun s=>some (.inl s)) (fun p=>some (.inr p))
def xgt (f:LA) (g:Int):(Int×Nat×Nat×Int×LA×LA)→LA×List Box:=fun (h,d,a,e,b,c)=>([AV.own 0 0 0 0,AV.own 1 0 0 0,AV.func 68 [AV.own 2 0 0 0,AV.own 1 0 0 0,AV.own 0 0 0 0],AV.list 2 f,AV.int .i64 g,AV.int .i64 h],[⟨0,1,53,[AV.osl 3 0 0 d],false,false⟩,⟨0,1,84,[AV.osl 4 0 0 a],false,false⟩,⟨0,1,3,[AV.int .i64 e],false,true⟩,⟨0,2,31,b,false,true⟩,⟨0,2,86,c,false,true⟩])
def xfn (a:LA) (b:Int):(Nat×Int×Nat×LA×LA)→LR:=fun p=>(.leaf (.exit 0) [AV.own 0 0 0 0,AV.func 68 [AV.own 1 0 0 0,AV.own 2 0 0 0,AV.own 0 0 0 0]] [⟨0,1,53,[AV.osl 3 0 0 p.1],false,false⟩,⟨0,1,3,[AV.int .i64 p.2.1],false,true⟩,⟨0,1,84,[AV.osl 4 0 0 p.2.2.1],false,false⟩,⟨0,2,31,p.2.2.2.1,false,true⟩,⟨0,2,86,p.2.2.2.2,false,true⟩])
abbrev xBp (a:LA) (H:List Box):=XR Tryz.prog xhN [3,4,6,10,11,12] [3,6] [(3,2,31),(4,2,86),(4,0,0)] (loopAt Tryz.f44 0) a H
theorem xBo (a:LA) (b:Int) (s:Int×Nat×Nat×Int×LA×LA):Enc (encR (xgt a b) (xfn a b)) (xcv a b s) (xBp (xgt a b s).1 (xgt a b s).2):=by
 obtain ⟨h,f,c,g,d,e⟩:=s
 refine eV (xh8 a b h f c g d e none (fun s=>some (encR (xgt a b) (xfn a b) (.inl s))) (fun p=>some (encR (xgt a b) (xfn a b) (.inr p)))) (by kernel_rfl) ?_;unfold xcv xh8;repeat' first|exact eN|exact eS rfl|apply eB
def xrE:Lp:=lpOf [3,4,6,10,11,12] [3,6] [(3,2,31),(4,2,86),(4,0,0)] (pCons (pOwn 0 0 0 0) (pCons (pOwn 1 0 0 0) (pCons (pFunc 68 (pCons (pOwn 2 0 0 0) (pCons (pOwn 1 0 0 0) (pCons (pOwn 0 0 0 0) pNil)))) (pCons (pList 2 pAny) (pCons (pInt .i64) (pCons (pInt .i64) pNil)))))) (pCons (pBox 0 1 53 false false (pCons (pOsl 3 0 0) pNil)) (pCons (pBox 0 1 84 false false (pCons (pOsl 4 0 0) pNil)) (pCons (pBox 0 1 3 false true (pCons (pInt .i64) pNil)) (pCons (pBox 0 2 31 false true pAny) (pCons (pBox 0 2 86 false true pAny) pNil))))) fun (_,(_,((_,(_,(_,_))),(e,(f,(h,_)))))) ((d,_),((a,_),((g,_),(b,(c,_)))))=>((Iter (xcv e f) (h,d,a,g,b,c)).isSome,xfn e f ((Iter (xcv e f) (h,d,a,g,b,c)).getD (0,0,0,[],[])))
theorem xym:LoopOk Tryz.prog (ITryz.at xhN.pin) xhN.nt (loopAt Tryz.f44 0) xrE:=xaY fun j k m l=>by
 obtain ⟨_,⟨_,⟨⟨_,⟨_,⟨_,_⟩⟩⟩,⟨d,⟨e,⟨h,_⟩⟩⟩⟩⟩⟩:=j
 obtain ⟨⟨f,_⟩,⟨⟨a,_⟩,⟨⟨g,_⟩,⟨b,⟨c,_⟩⟩⟩⟩⟩:=k
 obtain ⟨i,rfl⟩:=Prod.mk.inj l
 exact xaG mxTryz (inv0Ok Tryz.prog _) rfl xyT xuv (xgt d e) (xfn d e) (fun p=>by simp only [xfn,LR.eval];first|(simp;done)|(repeat' split<;>simp)) (xBo d e) (s:=(h,f,a,g,b,c)) (xab i)
def xkj:Env:=ESet.fn 30 0 (lsOf []) (lpsOf [(6,xrE)])
theorem xzH:OrcOk Tryz.prog (ITryz.at 0) xkj:=xEZ.fn
theorem xv2:LoOk Tryz.prog (ITryz.at xkj.pin) xkj (Tryz.f44.body.getD .skip):=xaP (ls:=[loopAt Tryz.f44 0]) (by kernel_rfl) (lkC xym lkN)
def xqm (l:LA):=Iter (xcv l (↑l.length:Int)) (0,0,0,0,[],[])
def xpB (l:LA):=(xqm l).getD (0,0,0,[],[])
def xpz (l:LA):=(xpB l).snd
def xpo (l:LA):=(xpz l).snd
def xpO (l:LA):=(xpo l).snd
def xp3 (l:LA):=set2 1099511627776 0 (xpz l).fst (xpo l).fst (xpB l).fst (xpO l).snd (xpO l).fst
def xpI (l:LA):=((xp3 l).getD (0,0,0,[],[])).snd.snd
def xkc (l:LA):=(xpI l).fst
def xkg (l:LA):=(xpI l).snd.snd
def xnF {T:Type} (l:LA) (δ:T) (κ:LA→T):T:=br ((xqm l).isSome) (br ((xp3 l).isSome) (br ((xkc l).beq (xkg l).length&&(decide (xkc l<4611686018427387904)&&(xkg l).all isP)) (br (decide (0+xkc l≤(srtP (xkg l)).length)&&true) (κ (List.take (xkc l) (List.drop 0 (srtP (xkg l))))) δ) δ) δ) δ
def xhm (l:LA):Option (LA):=xnF l none some
theorem xFt (l:LA):Enc (fun (p:LA)=>((AV.list 2 p):AV)) (xhm l) (XF Tryz.prog xkj Tryz.f44 (Tryz.f44.body.getD .skip) [AV.list 2 l]):=by
 refine eV (xnF l none (fun (p:LA)=>some ((AV.list 2 p):AV))) (by kernel_rfl) ?_;unfold xhm xnF;repeat' first|exact eN|exact eS rfl|apply eB
def xvj:LA→Option (Bool×AV):=ocOf (sCons (sList 2 pAny) sNil) fun (l,_)=>((xhm l).isSome,(AV.list 2 ((xhm l).getD [])))
theorem xFA:OcOk Tryz.prog ITryz 44 (xvj):=xaN fun c f e=>by
 obtain ⟨l,_⟩:=c
 obtain ⟨a,b⟩:=Prod.mk.inj e
 refine xaH (p:=xkj.pin) (xaL mxTryz (inv0Ok Tryz.prog _) rfl xzH Tryz.func44 rfl (by kernel_rfl) xv2 ((xFt _ _ (xab (d:=[]) a)).trans ?_))
 exact congrArg some b
def xHN:Env:=ESet.with 44 xvj
theorem xGe:OrcOk Tryz.prog ITryz xHN:=xEZ.with xFA
def xiX:Env:=xHN.fn 10 0 (lsOf []) (lpsOf [])
theorem xyF:OrcOk Tryz.prog (ITryz.at 0) xiX:=xGe.fn
theorem xvb:LoOk Tryz.prog (ITryz.at xiX.pin) xiX (Tryz.f43.body.getD .skip):=xaq (by kernel_rfl)
def xl7 {T:Type} (a:LA) (δ:T) (κ:LA→T):T:=br ((↑a.length:Int)==1) (κ (a)) (br ((xc9 a).isSome) (br ((xhm ((xc9 a).getD [])).isSome) (κ ((xhm ((xc9 a).getD [])).getD [])) δ) δ)
def xdJ (a:LA):Option (LA):=xl7 a none some
theorem xDS (a:LA):Enc (fun (p:LA)=>((AV.list 2 p):AV)) (xdJ a) (XF Tryz.prog xiX Tryz.f43 (Tryz.f43.body.getD .skip) [AV.list 2 a]):=by
 refine eV (xl7 a none (fun (p:LA)=>some ((AV.list 2 p):AV))) (by kernel_rfl) ?_;unfold xdJ xl7;repeat' first|exact eN|exact eS rfl|apply eB
def xtQ:LA→Option (Bool×AV):=ocOf (sCons (sList 2 pAny) sNil) fun (a,_)=>((xdJ a).isSome,(AV.list 2 ((xdJ a).getD [])))
theorem xCP:OcOk Tryz.prog ITryz 43 (xtQ):=xaN fun c f e=>by
 obtain ⟨g,_⟩:=c
 obtain ⟨a,b⟩:=Prod.mk.inj e
 refine xaH (p:=xiX.pin) (xaL mxTryz (inv0Ok Tryz.prog _) rfl xyF Tryz.func43 rfl (by kernel_rfl) xvb ((xDS _ _ (xab (d:=[]) a)).trans ?_))
 exact congrArg some b
def xMI:Env:=xHN.with 43 xtQ
theorem xMw:OrcOk Tryz.prog ITryz xMI:=xGe.with xCP
abbrev EKP3:Env:=xMI
theorem xPq:OrcOk Tryz.prog ITryz EKP3:=xMw
end Go.Sim.M
end
noncomputable section
set_option maxRecDepth 100000
namespace Go.Sim.M
open Go.IntKind (i64 u64 u8)
open Go.RowKit Go.Proofs
def xDC {T:Type} (b e:LA) (f:Int) (c:Nat) (a:Int) (d:LA) (δ:T) (κl:(Nat×Int×LA)→T) (κr:(Nat×LA)→T):T:=br (decide (a<f)) (br (decide (0≤a)&&decide (a<e.length)) (br (decide (a.toNat<e.length)&&((e.getD a.toNat .top).cells.length==2&&hasShs [Sh.int .i64,Sh.int .i64] (e.getD a.toNat .top).cells 0)) (br (xf7 ((e.getD a.toNat .top).cells.getD 0 .top).toInt ((e.getD a.toNat .top).cells.getD 1 .top).toInt) (br (c==d.length&&(decide ((c+2)*24≤140737488355328)&&decide (c+2≤4611686018427387904))) (κl (c+2,i64.wrap (a+1),d++[AV.agg [AV.int .i64 ((e.getD a.toNat .top).cells.getD 0 .top).toInt,AV.int .i64 1,AV.int .i64 0],AV.agg [AV.int .i64 ((e.getD a.toNat .top).cells.getD 1 .top).toInt,AV.int .i64 (-1),AV.int .i64 0]])) δ) (κl (c,i64.wrap (a+1),d))) δ) δ) (κr (c,d))
def xru (b d:LA) (e:Int):(Nat×Int×LA)→Option ((Nat×Int×LA)⊕(Nat×LA)):=fun (c,f,a)=>xDC b d e c f a none (fun s=>some (.inl s)) (fun p=>some (.inr p))
def xEm {T:Type} (d:LA) (e:Int) (b:Nat) (a:Int) (c:LA) (δ:T) (κl:(Nat×Int×LA)→T) (κr:(Nat×LA)→T):T:=br (decide (a<e)) (br (decide (0≤a)&&decide (a<d.length)) (br (decide (a.toNat<d.length)&&((d.getD a.toNat .top).cells.length==2&&hasShs [Sh.int .i64,Sh.int .i64] (d.getD a.toNat .top).cells 0)) (br (xf7 ((d.getD a.toNat .top).cells.getD 0 .top).toInt ((d.getD a.toNat .top).cells.getD 1 .top).toInt) (br (b==c.length&&(decide ((b+2)*24≤140737488355328)&&decide (b+2≤4611686018427387904))) (κl (b+2,i64.wrap (a+1),c++[AV.agg [AV.int .i64 ((d.getD a.toNat .top).cells.getD 0 .top).toInt,AV.int .i64 0,AV.int .i64 1],AV.agg [AV.int .i64 ((d.getD a.toNat .top).cells.getD 1 .top).toInt,AV.int .i64 0,AV.int .i64 (-1)]])) δ) (κl (b,i64.wrap (a+1),c))) δ) δ) (κr (b,c))
def xyS (c:LA) (d:Int):(Nat×Int×LA)→Option ((Nat×Int×LA)⊕(Nat×LA)):=fun (b,e,a)=>xEm c d b e a none (fun s=>some (.inl s)) (fun p=>some (.inr p))
def xwX (a b:LA):=(Iter (xru b a (↑a.length:Int)) (0,0,[])).getD (0,[])
def xwT (a b:LA):=Iter (xyS b (↑b.length:Int)) ((xwX a b).fst,0,(xwX a b).snd)
def xw3 (a b:LA):=(xwT a b).getD (0,[])
def xoo (a b:LA):=(xw3 a b).fst
def xol (a b:LA):=(xw3 a b).snd
def xHc {T:Type} (a b:LA) (δ:T) (κ:LA→T):T:=br ((Iter (xru b a (↑a.length:Int)) (0,0,[])).isSome) (br ((xwT a b).isSome) (br ((xoo a b).beq (xol a b).length&&(decide (xoo a b<4611686018427387904)&&(xol a b).all isE)) (br (decide (0+xoo a b≤(srtE (xol a b)).length)&&true) (κ (List.take (xoo a b) (List.drop 0 (srtE (xol a b))))) δ) δ) δ) δ
def xCO (a b:LA):Option (LA):=xHc a b none some
abbrev xMy:Env:=EKP3
theorem xNc:OrcOk Tryz.prog ITryz xMy:=xPq
def xLq (a b:Bool):Bool:=((a))
abbrev xMW:Env:=xMy
theorem xL7:OrcOk Tryz.prog ITryz xMW:=xNc
def xmE (l:LA) (i:Int):=decide (0≤i)&&decide (i<l.length)
def xA3 {T:Type} (l:LA) (e:Nat) (d b c i:Int) (a:LA) (δ:T) (κl:(Int×Int×Int×LA)→T) (κr:(Int×Int×Int×LA)→T):T:=br (decide (i<l.length)) (br (xmE l i) (br (decide (i.toNat<l.length)&&hasSh1 (Sh.int .i64) ((l.getD i.toNat .top).cells.getD 0 .top)) (br (((l.getD i.toNat .top).cells.getD 0 .top).toInt==d) (br (xmE l i) (br (decide (i.toNat<l.length)&&hasSh1 (Sh.int .i64) ((l.getD i.toNat .top).cells.getD 1 .top)) (br (xmE l i) (br (decide (i.toNat<l.length)&&hasSh1 (Sh.int .i64) ((l.getD i.toNat .top).cells.getD 2 .top)) (κl (i64.wrap (b+((l.getD i.toNat .top).cells.getD 1 .top).toInt),i64.wrap (c+((l.getD i.toNat .top).cells.getD 2 .top).toInt),i64.wrap (i+1),a)) δ) δ) δ) δ) (κr (b,c,i,a))) δ) δ) (κr (b,c,i,a))
def xpY (l:LA) (b:Nat) (c:Int):(Int×Int×Int×LA)→Option ((Int×Int×Int×LA)⊕(Int×Int×Int×LA)):=fun (d,e,i,a)=>xA3 l b c d e i a none (fun s=>some (.inl s)) (fun p=>some (.inr p))
def xj2 (a:Nat):=decide (0≤i64.wrap ((↑a:Int) - 1))&&decide (i64.wrap ((↑a:Int) - 1)<(↑a:Int))
def xqO (l:LA) (b:Nat) (d e i c:Int) (a:LA):=(Iter (xpY l b c) (d,e,i,a)).getD (0,0,0,[])
def xbD (a:Nat):Nat:=0+(i64.wrap ((↑a:Int) - 1)).toNat
def xrL (l:LA) (b:Nat) (d e i c:Int) (a:LA):=(xqO l b d e i c a).snd
def xc6 (l:LA) (b:Nat) (d e i c:Int) (a:LA):=(xqO l b d e i c a).fst
def xrK (l:LA) (b:Nat) (d e i c:Int) (a:LA):=(xrL l b d e i c a).snd
def xc0 (l:LA) (b:Nat) (d e i c:Int) (a:LA):=(xrL l b d e i c a).fst
def xaK (l:LA) (b:Nat) (d e i c:Int) (a:LA):=(xrK l b d e i c a).snd
def xrG (l:LA) (b:Nat) (d e i c:Int) (a:LA):=xLq (decide (xc6 l b d e i c a>0)) (decide (xc0 l b d e i c a>0))
def xaO (l:LA) (b:Nat) (d e i c:Int) (a:LA):=(xrK l b d e i c a).fst
def xjO (l:LA) (a:Nat) (d e i c:Int) (b:LA):=decide (xbD a<(xaK l a d e i c b).length)
def xrI (l:LA) (b:Nat) (d e i c:Int) (a:LA):=decide (xaO l b d e i c a<l.length)
def xAR {T:Type} (l:LA) (a:Nat) (d e i c:Int) (b:LA) (δ:T) (κl:(Nat×Int×Int×Int×Int×LA)→T) (κr:(Nat×LA)→T):T:=br (decide (c<1099511627776)) (br ((Iter (xpY l a c) (d,e,i,b)).isSome) (br (xrI l a d e i c b) (br (decide (0≤xaO l a d e i c b)&&xrI l a d e i c b) (br (decide ((xaO l a d e i c b).toNat<l.length)&&hasSh1 (Sh.int .i64) ((l.getD (xaO l a d e i c b).toNat .top).cells.getD 0 .top)) (br (xrG l a d e i c b) (br (decide ((↑a:Int)>0)) (br (xj2 a) (br (xjO l a d e i c b&&hasSh1 (Sh.int .i64) (((xaK l a d e i c b).getD (xbD a) .top).cells.getD 1 .top)) (br ((((xaK l a d e i c b).getD (xbD a) .top).cells.getD 1 .top).toInt==c) (br (xj2 a) (br (xjO l a d e i c b) (κl (a,xc6 l a d e i c b,xc0 l a d e i c b,xaO l a d e i c b,((l.getD (xaO l a d e i c b).toNat .top).cells.getD 0 .top).toInt,(xaK l a d e i c b).set (xbD a) (AV.agg (List.take 1 ((xaK l a d e i c b).getD (xbD a) .top).cells++[AV.int .i64 ((l.getD (xaO l a d e i c b).toNat .top).cells.getD 0 .top).toInt]++List.drop 2 ((xaK l a d e i c b).getD (xbD a) .top).cells)))) δ) δ) (br (a==(xaK l a d e i c b).length&&(decide ((a+1)*16≤140737488355328)&&decide (a+1≤4611686018427387904))) (κl (a+1,xc6 l a d e i c b,xc0 l a d e i c b,xaO l a d e i c b,((l.getD (xaO l a d e i c b).toNat .top).cells.getD 0 .top).toInt,xaK l a d e i c b++[AV.agg [AV.int .i64 c,AV.int .i64 ((l.getD (xaO l a d e i c b).toNat .top).cells.getD 0 .top).toInt]])) δ)) δ) δ) (br (a==(xaK l a d e i c b).length&&(decide ((a+1)*16≤140737488355328)&&decide (a+1≤4611686018427387904))) (κl (a+1,xc6 l a d e i c b,xc0 l a d e i c b,xaO l a d e i c b,((l.getD (xaO l a d e i c b).toNat .top).cells.getD 0 .top).toInt,xaK l a d e i c b++[AV.agg [AV.int .i64 c,AV.int .i64 ((l.getD (xaO l a d e i c b).toNat .top).cells.getD 0 .top).toInt]])) δ)) (κl (a,xc6 l a d e i c b,xc0 l a d e i c b,xaO l a d e i c b,((l.getD (xaO l a d e i c b).toNat .top).cells.getD 0 .top).toInt,xaK l a d e i c b))) δ) δ) (br (xrG l a d e i c b) (br (decide ((↑a:Int)>0)) (br (xj2 a) (br (xjO l a d e i c b&&hasSh1 (Sh.int .i64) (((xaK l a d e i c b).getD (xbD a) .top).cells.getD 1 .top)) (br ((((xaK l a d e i c b).getD (xbD a) .top).cells.getD 1 .top).toInt==c) (br (xj2 a) (br (xjO l a d e i c b) (κl (a,xc6 l a d e i c b,xc0 l a d e i c b,xaO l a d e i c b,1099511627776,(xaK l a d e i c b).set (xbD a) (AV.agg (List.take 1 ((xaK l a d e i c b).getD (xbD a) .top).cells++[AV.int .i64 1099511627776]++List.drop 2 ((xaK l a d e i c b).getD (xbD a) .top).cells)))) δ) δ) (br (a==(xaK l a d e i c b).length&&(decide ((a+1)*16≤140737488355328)&&decide (a+1≤4611686018427387904))) (κl (a+1,xc6 l a d e i c b,xc0 l a d e i c b,xaO l a d e i c b,1099511627776,xaK l a d e i c b++[AV.agg [AV.int .i64 c,AV.int .i64 1099511627776]])) δ)) δ) δ) (br (a==(xaK l a d e i c b).length&&(decide ((a+1)*16≤140737488355328)&&decide (a+1≤4611686018427387904))) (κl (a+1,xc6 l a d e i c b,xc0 l a d e i c b,xaO l a d e i c b,1099511627776,xaK l a d e i c b++[AV.agg [AV.int .i64 c,AV.int .i64 1099511627776]])) δ)) (κl (a,xc6 l a d e i c b,xc0 l a d e i c b,xaO l a d e i c b,1099511627776,xaK l a d e i c b)))) δ) (κr (a,b))
def xwo (l:LA):(Nat×Int×Int×Int×Int×LA)→Option ((Nat×Int×Int×Int×Int×LA)⊕(Nat×LA)):=fun (b,d,e,i,c,a)=>xAR l b d e i c a none (fun s=>some (.inl s)) (fun p=>some (.inr p))
def xtY (a b:LA):=Iter (xwo ((xCO a b).getD [])) (0,0,0,0,0,[])
def xt6 (a b:LA):=(xtY a b).getD (0,[])
def xtK (a b:LA):=(xt6 a b).snd
def xtW (a b:LA):=(xt6 a b).fst
def xES {T:Type} (a b:LA) (δ:T) (κ:LA→T):T:=br ((xCO a b).isSome) (br ((xtY a b).isSome) (br (decide (0+xtW a b≤(xtK a b).length)&&true) (κ (List.take (xtW a b) (List.drop 0 (xtK a b)))) δ) δ) δ
def xzD (a b:LA):Option (LA):=xES a b none some
abbrev xMu:Env:=xMW
theorem xLW:OrcOk Tryz.prog ITryz xMu:=xL7
def xMG {T:Type} (l:LA) (δ:T) (κ:LA→T):T:=br ((xzD l []).isSome) (κ ((xzD l []).getD [])) δ
def xAw (l:LA):Option (LA):=xMG l none some
abbrev xMe:Env:=xMu
theorem xMi:OrcOk Tryz.prog ITryz xMe:=xLW
abbrev EKP4:Env:=xMe
theorem xAD:OrcOk Tryz.prog ITryz EKP4:=xMi
end Go.Sim.M
end
noncomputable section
set_option maxRecDepth 100000
namespace Go.Sim.M
open Go.IntKind (i64 u64 u8)
open Go.RowKit Go.Proofs
def xfm:Env:=EKP4.fn 38 0 (lsOf [42]) (lpsOf [])
theorem xuK:OrcOk Tryz.prog (ITryz.at 0) xfm:=xAD.fn
theorem xr6:LoOk Tryz.prog (ITryz.at xfm.pin) xfm (loopAt Tryz.f42 1):=xaq (by kernel_rfl)
def xfN {T:Type} (h:LA) (i j:Int) (e:LA) (f:Int) (a:Nat) (b:Int) (c d g:LA) (δ:T) (κl:(Nat×Int×LA×LA×LA)→T) (κr:(Nat×LA)→T):T:=br (decide (b<f)) (br (decide (0≤b)&&decide (b<e.length)) (br (decide (b.toNat<e.length)&&((e.getD b.toNat .top).cells.length==2&&hasShs [Sh.int .i64,Sh.int .i64] (e.getD b.toNat .top).cells 0)) (br (decide (d.length*32≤140737488355328)&&decide (d.length≤4611686018427387904)) (br (decide (0+d.length≤d.length)&&true&&true&&true&&true) (br (a==c.length&&(decide ((a+1)*40≤140737488355328)&&decide (a+1≤4611686018427387904))) (κl (a+1,i64.wrap (b+1),c++[AV.agg [AV.list 3 (List.take d.length (List.drop 0 d)),AV.int .i64 ((e.getD b.toNat .top).cells.getD 0 .top).toInt,AV.int .i64 ((e.getD b.toNat .top).cells.getD 1 .top).toInt]],d,g)) δ) δ) δ) δ) δ) (κr (a,c))
def xbv (c:LA) (d e:Int) (f:LA) (g:Int):(Nat×Int×LA×LA×LA)→Option ((Nat×Int×LA×LA×LA)⊕(Nat×LA)):=fun (b,h,a,i,j)=>xfN c d e f g b h a i j none (fun s=>some (.inl s)) (fun p=>some (.inr p))
def xd8 (c:LA) (d e:Int) (f:LA) (g:Int):(Nat×Int×LA×LA×LA)→LA×List Box:=fun (b,h,a,i,j)=>([AV.func 43 [],AV.osl 0 0 0 b,AV.own 1 0 0 0,AV.list 2 c,AV.int .i64 d,AV.int .i64 e,AV.list 2 f,AV.int .i64 g,AV.int .i64 h],[⟨0,3,42,a,false,true⟩,⟨0,2,83,[AV.agg [AV.list 3 i,AV.list 2 j]],false,true⟩])
def xdw (a:LA) (b c:Int) (d:LA) (e:Int):(Nat×LA)→LR:=fun p=>(.leaf (.exit 2) [AV.func 43 [],AV.osl 0 0 0 p.1,AV.list 2 a,AV.int .i64 b,AV.int .i64 c] [⟨0,3,42,p.2,false,true⟩])
abbrev xvz (a:LA) (H:List Box):=XR Tryz.prog xfm [1,5,7,11,12,13,20,21,22] [1,5,11,12,13] [(5,3,42)] (loopAt Tryz.f42 1) a H
theorem xvh (a:LA) (b c:Int) (d:LA) (e:Int) (s:Nat×Int×LA×LA×LA):Enc (encR (xd8 a b c d e) (xdw a b c d e)) (xbv a b c d e s) (xvz (xd8 a b c d e s).1 (xd8 a b c d e s).2):=by
 obtain ⟨g,h,f,i,j⟩:=s
 refine eV (xfN a b c d e g h f i j none (fun s=>some (encR (xd8 a b c d e) (xdw a b c d e) (.inl s))) (fun p=>some (encR (xd8 a b c d e) (xdw a b c d e) (.inr p)))) (by kernel_rfl) ?_;unfold xbv xfN;repeat' first|exact eN|exact eS rfl|apply eB
def xkt:Lp:=lpOf [1,5,7,11,12,13,20,21,22] [1,5,11,12,13] [(5,3,42)] (pCons (pFunc 43 pNil) (pCons (pOsl 0 0 0) (pCons (pOwn 1 0 0 0) (pCons (pList 2 pAny) (pCons (pInt .i64) (pCons (pInt .i64) (pCons (pList 2 pAny) (pCons (pInt .i64) (pCons (pInt .i64) pNil))))))))) (pCons (pBox 0 3 42 false true pAny) (pCons (pBox 0 2 83 false true (pCons (pAgg (pCons (pList 3 pAny) (pCons (pList 2 pAny) pNil))) pNil)) pNil)) fun (_,(b,(_,(c,(d,(e,(f,(g,(h,_))))))))) (a,(((i,(j,_)),_),_))=>((Iter (xbv c d e f g) (b,h,a,i,j)).isSome,xdw c d e f g ((Iter (xbv c d e f g) (b,h,a,i,j)).getD (0,[])))
theorem xnM:LoopOk Tryz.prog (ITryz.at xfm.pin) xfm.nt (loopAt Tryz.f42 1) xkt:=xaY fun l m o n=>by
 obtain ⟨_,⟨g,⟨_,⟨a,⟨b,⟨c,⟨d,⟨e,⟨h,_⟩⟩⟩⟩⟩⟩⟩⟩⟩:=l
 obtain ⟨f,⟨⟨⟨i,⟨j,_⟩⟩,_⟩,_⟩⟩:=m
 obtain ⟨k,rfl⟩:=Prod.mk.inj n
 exact xaG mxTryz (inv0Ok Tryz.prog _) rfl xuK xr6 (xd8 a b c d e) (xdw a b c d e) (fun p=>by simp only [xdw,LR.eval];first|(simp;done)|(repeat' split<;>simp)) (xvh a b c d e) (s:=(g,h,f,i,j)) (xab k)
def xfk:Env:=EKP4.fn 38 0 (lsOf [42]) (lpsOf [(6,xkt)])
theorem xuy:OrcOk Tryz.prog (ITryz.at 0) xfk:=xAD.fn
theorem xsk:LoOk Tryz.prog (ITryz.at xfk.pin) xfk (loopAt Tryz.f42 0):=xaP (ls:=[loopAt Tryz.f42 1]) (by kernel_rfl) (lkC xnM lkN)
def xkp (a:LA) (e:Int) (d:Nat) (b:Int) (c:LA):=Iter (xbv a e b ((xdJ ((a.getD b.toNat .top).cells.getD 1 .top).toList).getD []) (↑((xdJ ((a.getD b.toNat .top).cells.getD 1 .top).toList).getD []).length:Int)) (d,0,c,((a.getD b.toNat .top).cells.getD 0 .top).toList,((a.getD b.toNat .top).cells.getD 1 .top).toList)
def xku (c:LA) (d:Int) (b:Nat) (e:Int) (a:LA):=(xkp c d b e a).getD (0,[])
def xfT {T:Type} (c:LA) (e:Int) (d:Nat) (a:Int) (b:LA) (δ:T) (κl:(Nat×Int×LA)→T) (κr:(Nat×LA)→T):T:=br (decide (a<e)) (br (decide (0≤a)&&decide (a<c.length)) (br (decide (a.toNat<c.length)&&((c.getD a.toNat .top).cells.length==2&&hasShs [Sh.list 3,Sh.list 2] (c.getD a.toNat .top).cells 0)) (br ((xdJ ((c.getD a.toNat .top).cells.getD 1 .top).toList).isSome) (br ((xkp c e d a b).isSome) (κl ((xku c e d a b).fst,i64.wrap (a+1),(xku c e d a b).snd)) δ) δ) δ) δ) (κr (d,b))
def xb5 (c:LA) (d:Int):(Nat×Int×LA)→Option ((Nat×Int×LA)⊕(Nat×LA)):=fun (b,e,a)=>xfT c d b e a none (fun s=>some (.inl s)) (fun p=>some (.inr p))
def xed (c:LA) (d:Int):(Nat×Int×LA)→LA×List Box:=fun (b,e,a)=>([AV.func 43 [],AV.osl 0 0 0 b,AV.list 2 c,AV.int .i64 d,AV.int .i64 e],[⟨0,3,42,a,false,true⟩])
def xdy (a:LA) (b:Int):(Nat×LA)→LR:=fun p=>(.leaf (.exit 0) [AV.osl 0 0 0 p.1] [⟨0,3,42,p.2,false,true⟩])
abbrev xvC (a:LA) (H:List Box):=XR Tryz.prog xfk [1,5,11,12,13] [5] [(5,3,42)] (loopAt Tryz.f42 0) a H
theorem xvl (a:LA) (b:Int) (s:Nat×Int×LA):Enc (encR (xed a b) (xdy a b)) (xb5 a b s) (xvC (xed a b s).1 (xed a b s).2):=by
 obtain ⟨d,e,c⟩:=s
 refine eV (xfT a b d e c none (fun s=>some (encR (xed a b) (xdy a b) (.inl s))) (fun p=>some (encR (xed a b) (xdy a b) (.inr p)))) (by kernel_rfl) ?_;unfold xb5 xfT;repeat' first|exact eN|exact eS rfl|apply eB
def xn9:Lp:=lpOf [1,5,11,12,13] [5] [(5,3,42)] (pCons (pFunc 43 pNil) (pCons (pOsl 0 0 0) (pCons (pList 2 pAny) (pCons (pInt .i64) (pCons (pInt .i64) pNil))))) (pCons (pBox 0 3 42 false true pAny) pNil) fun (_,(b,(c,(d,(e,_))))) (a,_)=>((Iter (xb5 c d) (b,e,a)).isSome,xdy c d ((Iter (xb5 c d) (b,e,a)).getD (0,[])))
theorem xtE:LoopOk Tryz.prog (ITryz.at xfk.pin) xfk.nt (loopAt Tryz.f42 0) xn9:=xaY fun g h j i=>by
 obtain ⟨_,⟨d,⟨a,⟨b,⟨e,_⟩⟩⟩⟩⟩:=g
 obtain ⟨c,_⟩:=h
 obtain ⟨f,rfl⟩:=Prod.mk.inj i
 exact xaG mxTryz (inv0Ok Tryz.prog _) rfl xuy xsk (xed a b) (xdy a b) (fun p=>by simp only [xdy,LR.eval];first|(simp;done)|(repeat' split<;>simp)) (xvl a b) (s:=(d,e,c)) (xab f)
def xgT:Env:=EKP4.fn 38 0 (lsOf [42]) (lpsOf [(6,xkt),(3,xn9)])
theorem xuz:OrcOk Tryz.prog (ITryz.at 0) xgT:=xAD.fn
theorem xsS:LoOk Tryz.prog (ITryz.at xgT.pin) xgT (Tryz.f42.body.getD .skip):=xaP (ls:=[loopAt Tryz.f42 0,loopAt Tryz.f42 1]) (by kernel_rfl) (lkC xtE (lkC xnM lkN))
def xlW (l:LA):=Iter (xb5 ((xfA l).getD []) (↑((xfA l).getD []).length:Int)) (0,0,[])
def xl0 (l:LA):=(xlW l).getD (0,[])
def xl2 (l:LA):=(xl0 l).snd
def xlZ (l:LA):=(xl0 l).fst
def xjG {T:Type} (l:LA) (δ:T) (κ:LA→T):T:=br ((xfA l).isSome) (br ((xlW l).isSome) (br (decide (0+xlZ l≤(xl2 l).length)&&true) (κ (List.take (xlZ l) (List.drop 0 (xl2 l)))) δ) δ) δ
def xfD (l:LA):Option (LA):=xjG l none some
theorem xzM (l:LA):Enc (fun (p:LA)=>((AV.list 3 p):AV)) (xfD l) (XF Tryz.prog xgT Tryz.f42 (Tryz.f42.body.getD .skip) [AV.list 3 l,AV.func (43:FuncId) []]):=by
 refine eV (xjG l none (fun (p:LA)=>some ((AV.list 3 p):AV))) (by kernel_rfl) ?_;unfold xfD xjG;repeat' first|exact eN|exact eS rfl|apply eB
def xrP:LA→Option (Bool×AV):=ocOf (sCons (sList 3 pAny) (sCons (sEq (pFunc (43:FuncId) pNil)) sNil)) fun (l,(_,_))=>((xfD l).isSome,(AV.list 3 ((xfD l).getD [])))
theorem xzS:OcOk Tryz.prog ITryz 42 (xrP):=xaN fun c f e=>by
 obtain ⟨l,⟨_,_⟩⟩:=c
 obtain ⟨a,b⟩:=Prod.mk.inj e
 refine xaH (p:=xgT.pin) (xaL mxTryz (inv0Ok Tryz.prog _) rfl xuz Tryz.func42 rfl (by kernel_rfl) xsS ((xzM _ _ (xab (d:=[]) a)).trans ?_))
 exact congrArg some b
def xIr:Env:=EKP4.with 42 xrP
theorem xFV:OrcOk Tryz.prog ITryz xIr:=xAD.with xzS
def xjH:Env:=xIr.fn 5 0 (lsOf []) (lpsOf [])
theorem xzn:OrcOk Tryz.prog (ITryz.at 0) xjH:=xFV.fn
theorem xv5:LoOk Tryz.prog (ITryz.at xjH.pin) xjH (Tryz.f14.body.getD .skip):=xaq (by kernel_rfl)
def xnm {T:Type} (l:LA) (δ:T) (κ:LA→T):T:=br ((xfD l).isSome) (κ ((xfD l).getD [])) δ
def xa6 (l:LA):Option (LA):=xnm l none some
theorem xE7 (l:LA):Enc (fun (p:LA)=>((AV.list 3 p):AV)) (xa6 l) (XF Tryz.prog xjH Tryz.f14 (Tryz.f14.body.getD .skip) [AV.list 3 l]):=by
 refine eV (xnm l none (fun (p:LA)=>some ((AV.list 3 p):AV))) (by kernel_rfl) ?_;unfold xa6 xnm;repeat' first|exact eN|exact eS rfl|apply eB
def xvA:LA→Option (Bool×AV):=ocOf (sCons (sList 3 pAny) sNil) fun (l,_)=>((xa6 l).isSome,(AV.list 3 ((xa6 l).getD [])))
theorem xEV:OcOk Tryz.prog ITryz 14 (xvA):=xaN fun c f e=>by
 obtain ⟨l,_⟩:=c
 obtain ⟨a,b⟩:=Prod.mk.inj e
 refine xaH (p:=xjH.pin) (xaL mxTryz (inv0Ok Tryz.prog _) rfl xzn Tryz.func14 rfl (by kernel_rfl) xv5 ((xE7 _ _ (xab (d:=[]) a)).trans ?_))
 exact congrArg some b
def xL2:Env:=xIr.with 14 xvA
theorem xMH:OrcOk Tryz.prog ITryz xL2:=xFV.with xEV
def xvu {T:Type} (h:LA) (i j:Int) (e:LA) (f:Int) (a:Nat) (b:Int) (c d g:LA) (δ:T) (κl:(Nat×Int×LA×LA×LA)→T) (κr:(Nat×LA)→T):T:=br (decide (b<f)) (br (decide (0≤b)&&decide (b<e.length)) (br (decide (b.toNat<e.length)&&((e.getD b.toNat .top).cells.length==2&&hasShs [Sh.int .i64,Sh.int .i64] (e.getD b.toNat .top).cells 0)) (br (decide (d.length*32≤140737488355328)&&decide (d.length≤4611686018427387904)) (br (decide (0+d.length≤d.length)&&true&&true&&true&&true) (br (a==c.length&&(decide ((a+1)*40≤140737488355328)&&decide (a+1≤4611686018427387904))) (κl (a+1,i64.wrap (b+1),c++[AV.agg [AV.list 3 (List.take d.length (List.drop 0 d)),AV.int .i64 ((e.getD b.toNat .top).cells.getD 0 .top).toInt,AV.int .i64 ((e.getD b.toNat .top).cells.getD 1 .top).toInt]],d,g)) δ) δ) δ) δ) δ) (κr (a,c))
def xmq (c:LA) (d e:Int) (f:LA) (g:Int):(Nat×Int×LA×LA×LA)→Option ((Nat×Int×LA×LA×LA)⊕(Nat×LA)):=fun (b,h,a,i,j)=>xvu c d e f g b h a i j none (fun s=>some (.inl s)) (fun p=>some (.inr p))
def xko (a:LA) (e:Int) (d:Nat) (b:Int) (c:LA):=Iter (xmq a e b ((xAw ((a.getD b.toNat .top).cells.getD 1 .top).toList).getD []) (↑((xAw ((a.getD b.toNat .top).cells.getD 1 .top).toList).getD []).length:Int)) (d,0,c,((a.getD b.toNat .top).cells.getD 0 .top).toList,((a.getD b.toNat .top).cells.getD 1 .top).toList)
def xkn (c:LA) (d:Int) (b:Nat) (e:Int) (a:LA):=(xko c d b e a).getD (0,[])
def xk0 {T:Type} (c:LA) (e:Int) (d:Nat) (a:Int) (b:LA) (δ:T) (κl:(Nat×Int×LA)→T) (κr:(Nat×LA)→T):T:=br (decide (a<e)) (br (decide (0≤a)&&decide (a<c.length)) (br (decide (a.toNat<c.length)&&((c.getD a.toNat .top).cells.length==2&&hasShs [Sh.list 3,Sh.list 2] (c.getD a.toNat .top).cells 0)) (br ((xAw ((c.getD a.toNat .top).cells.getD 1 .top).toList).isSome) (br ((xko c e d a b).isSome) (κl ((xkn c e d a b).fst,i64.wrap (a+1),(xkn c e d a b).snd)) δ) δ) δ) δ) (κr (d,b))
def xi0 (c:LA) (d:Int):(Nat×Int×LA)→Option ((Nat×Int×LA)⊕(Nat×LA)):=fun (b,e,a)=>xk0 c d b e a none (fun s=>some (.inl s)) (fun p=>some (.inr p))
abbrev xLl:Env:=xL2
theorem xML:OrcOk Tryz.prog ITryz xLl:=xMH
abbrev xLN:Env:=xLl
theorem xNd:OrcOk Tryz.prog ITryz xLN:=xML
abbrev EKP5:Env:=xLN
theorem xPp:OrcOk Tryz.prog ITryz EKP5:=xNd
end Go.Sim.M
end
noncomputable section
set_option maxRecDepth 100000
namespace Go.Sim.M
open Go.IntKind (i64 u64 u8)
open Go.RowKit Go.Proofs
abbrev xOy:Env:=EKP5
theorem xNP:OrcOk Tryz.prog ITryz xOy:=xPp
abbrev xOH:Env:=xOy
theorem xNv:OrcOk Tryz.prog ITryz xOH:=xNP
abbrev xOt:Env:=xOH
theorem xOj:OrcOk Tryz.prog ITryz xOt:=xNv
abbrev xOP:Env:=xOt
theorem xNS:OrcOk Tryz.prog ITryz xOP:=xOj
abbrev xOI:Env:=xOP
theorem xNt:OrcOk Tryz.prog ITryz xOI:=xNS
abbrev xOM:Env:=xOI
theorem xNu:OrcOk Tryz.prog ITryz xOM:=xNt
abbrev xOp:Env:=xOM
theorem xNj:OrcOk Tryz.prog ITryz xOp:=xNu
abbrev xOC:Env:=xOp
theorem xOi:OrcOk Tryz.prog ITryz xOC:=xNj
abbrev EKV:Env:=xOC
theorem xQh:OrcOk Tryz.prog ITryz EKV:=xOi
end Go.Sim.M
end
noncomputable section
set_option maxRecDepth 100000
namespace Go.Sim.M
open Go.IntKind (i64 u64 u8)
open Go.RowKit Go.Proofs
abbrev xOG:Env:=EKV
theorem xN9:OrcOk Tryz.prog ITryz xOG:=xQh
abbrev xOA:Env:=xOG
theorem xNT:OrcOk Tryz.prog ITryz xOA:=xN9
abbrev xOr:Env:=xOA
theorem xNH:OrcOk Tryz.prog ITryz xOr:=xNT
abbrev xOs:Env:=xOr
theorem xNm:OrcOk Tryz.prog ITryz xOs:=xNH
abbrev xGZ:Env:=xOs
theorem xCC:OrcOk Tryz.prog ITryz xGZ:=xNm
def xhv:Env:=xGZ.fn 26 0 (lsOf []) (lpsOf [])
theorem xy5:OrcOk Tryz.prog (ITryz.at 0) xhv:=xCC.fn
theorem xuH:LoOk Tryz.prog (ITryz.at xhv.pin) xhv (loopAt Tryz.f81 0):=xaq (by kernel_rfl)
def xid {T:Type} (b c:LA) (d a:Int) (δ:T) (κl:(Int)→T) (κr:(Bool×(Bool)×(Unit))→T):T:=br (decide (a<d)) (br (decide (0≤a)&&decide (a<b.length)) (br (decide (a.toNat<b.length)&&((b.getD a.toNat .top).cells.length==3&&hasShs [Sh.int .i64,Sh.int .i64,Sh.str] (b.getD a.toNat .top).cells 0)) (br (decide (0≤a)&&decide (a<c.length)) (br (decide (a.toNat<c.length)&&((c.getD a.toNat .top).cells.length==3&&hasShs [Sh.int .i64,Sh.int .i64,Sh.str] (c.getD a.toNat .top).cells 0)) (br (!(((b.getD a.toNat .top).cells.getD 0 .top).toInt==((c.getD a.toNat .top).cells.getD 0 .top).toInt&&(((b.getD a.toNat .top).cells.getD 1 .top).toInt==((c.getD a.toNat .top).cells.getD 1 .top).toInt&&(((b.getD a.toNat .top).cells.getD 2 .top).toStr==((c.getD a.toNat .top).cells.getD 2 .top).toStr&&true)))) (κr (true,(false),())) (κl (i64.wrap (a+1)))) δ) δ) δ) δ) (κr (false,false,()))
def xbO (c d:LA) (a:Int):(Int)→Option ((Int)⊕(Bool×(Bool)×(Unit))):=fun (b)=>xid c d a b none (fun s=>some (.inl s)) (fun p=>some (.inr p))
def xgp (c d:LA) (a:Int):(Int)→LA×List Box:=fun (b)=>([AV.list 3 c,AV.list 3 d,AV.int .i64 a,AV.int .i64 b],[])
def xe1 (b c:LA) (a:Int):(Bool×(Bool)×(Unit))→LR:=fun p=>(.node p.1 (.leaf .ret [AV.bool p.2.1] []) (.leaf (.exit 0) [.top] []))
abbrev xBi (a:LA) (H:List Box):=XR Tryz.prog xhv [0,1,12,13] [4] [] (loopAt Tryz.f81 0) a H
theorem xBr (b c:LA) (a d:Int):Enc (encR (xgp b c a) (xe1 b c a)) (xbO b c a d) (xBi (xgp b c a d).1 (xgp b c a d).2):=by
 refine eV (xid b c a d none (fun s=>some (encR (xgp b c a) (xe1 b c a) (.inl s))) (fun p=>some (encR (xgp b c a) (xe1 b c a) (.inr p)))) (by kernel_rfl) ?_;unfold xbO xid;repeat' first|exact eN|exact eS rfl|apply eB
def xrn:Lp:=lpOf [0,1,12,13] [4] [] (pCons (pList 3 pAny) (pCons (pList 3 pAny) (pCons (pInt .i64) (pCons (pInt .i64) pNil)))) pNil fun (c,(d,(a,(b,_)))) _=>((Iter (xbO c d a) (b)).isSome,xe1 c d a ((Iter (xbO c d a) (b)).getD (false,false,())))
theorem xyo:LoopOk Tryz.prog (ITryz.at xhv.pin) xhv.nt (loopAt Tryz.f81 0) xrn:=xaY fun f h i g=>by
 obtain ⟨b,⟨c,⟨a,⟨d,_⟩⟩⟩⟩:=f
 obtain ⟨e,rfl⟩:=Prod.mk.inj g
 exact xaG mxTryz (inv0Ok Tryz.prog _) rfl xy5 xuH (xgp b c a) (xe1 b c a) (fun p=>by simp only [xe1,LR.eval];first|(simp;done)|(repeat' split<;>simp)) (xBr b c a) (s:=(d)) (xab e)
def xjJ:Env:=xGZ.fn 26 0 (lsOf []) (lpsOf [(4,xrn)])
theorem xyR:OrcOk Tryz.prog (ITryz.at 0) xjJ:=xCC.fn
theorem xwH:LoOk Tryz.prog (ITryz.at xjJ.pin) xjJ (Tryz.f81.body.getD .skip):=xaP (ls:=[loopAt Tryz.f81 0]) (by kernel_rfl) (lkC xyo lkN)
def xnI {T:Type} (a b:LA) (δ:T) (κ:Bool→T):T:=br ((↑a.length:Int) != (↑b.length:Int)) (κ (false)) (br ((Iter (xbO a b (↑a.length:Int)) 0).isSome) (br (((Iter (xbO a b (↑a.length:Int)) 0).getD (false,false,())).fst) (κ (((Iter (xbO a b (↑a.length:Int)) 0).getD (false,false,())).snd.fst)) (κ (true))) δ)
def xht (a b:LA):Option (Bool):=xnI a b none some
theorem xEN (a b:LA):Enc (fun (p:Bool)=>((AV.bool p):AV)) (xht a b) (XF Tryz.prog xjJ Tryz.f81 (Tryz.f81.body.getD .skip) [AV.list 3 a,AV.list 3 b]):=by
 refine eV (xnI a b none (fun (p:Bool)=>some ((AV.bool p):AV))) (by kernel_rfl) ?_;unfold xht xnI;repeat' first|exact eN|exact eS rfl|apply eB
def xvF:LA→Option (Bool×AV):=ocOf (sCons (sList 3 pAny) (sCons (sList 3 pAny) sNil)) fun (a,(b,_))=>((xht a b).isSome,(AV.bool ((xht a b).getD false)))
theorem xFg:OcOk Tryz.prog ITryz 81 (xvF):=xaN fun c f e=>by
 obtain ⟨g,⟨h,_⟩⟩:=c
 obtain ⟨a,b⟩:=Prod.mk.inj e
 refine xaH (p:=xjJ.pin) (xaL mxTryz (inv0Ok Tryz.prog _) rfl xyR Tryz.func81 rfl (by kernel_rfl) xwH ((xEN _ _ _ (xab (d:=false) a)).trans ?_))
 exact congrArg some b
def xK0:Env:=xGZ.with 81 xvF
theorem xIg:OrcOk Tryz.prog ITryz xK0:=xCC.with xFg
def xfw:Env:=xK0.fn 17 0 (lsOf []) (lpsOf [])
theorem xsD:OrcOk Tryz.prog (ITryz.at 0) xfw:=xIg.fn
theorem xrY:LoOk Tryz.prog (ITryz.at xfw.pin) xfw (Tryz.f80.body.getD .skip):=xaq (by kernel_rfl)
def xhB {T:Type} (a:LA) (c d:Int) (b:LA) (e f:Int) (δ:T) (κ:Bool→T):T:=br (c==e&&(d==f&&true)) (br ((xht a b).isSome) (κ ((xht a b).getD false)) δ) (κ (false))
def xdW (a:LA) (b c:Int) (d:LA) (e f:Int):Option (Bool):=xhB a b c d e f none some
theorem xvH (a:LA) (b c:Int) (d:LA) (e f:Int):Enc (fun (p:Bool)=>((AV.bool p):AV)) (xdW a b c d e f) (XF Tryz.prog xfw Tryz.f80 (Tryz.f80.body.getD .skip) [AV.agg [AV.list 3 a,AV.int .i64 b,AV.int .i64 c],AV.agg [AV.list 3 d,AV.int .i64 e,AV.int .i64 f]]):=by
 refine eV (xhB a b c d e f none (fun (p:Bool)=>some ((AV.bool p):AV))) (by kernel_rfl) ?_;unfold xdW xhB;repeat' first|exact eN|exact eS rfl|apply eB
def xo6:LA→Option (Bool×AV):=ocOf (sCons (sAgg (sCons (sList 3 pAny) (sCons (sEq (pInt .i64)) (sCons (sEq (pInt .i64)) sNil)))) (sCons (sAgg (sCons (sList 3 pAny) (sCons (sEq (pInt .i64)) (sCons (sEq (pInt .i64)) sNil)))) sNil)) fun ((a,(b,(c,_))),((d,(e,(f,_))),_))=>((xdW a b c d e f).isSome,(AV.bool ((xdW a b c d e f).getD false)))
theorem xvp:OcOk Tryz.prog ITryz 80 (xo6):=xaN fun c l e=>by
 obtain ⟨⟨f,⟨g,⟨h,_⟩⟩⟩,⟨⟨i,⟨j,⟨k,_⟩⟩⟩,_⟩⟩:=c
 obtain ⟨a,b⟩:=Prod.mk.inj e
 refine xaH (p:=xfw.pin) (xaL mxTryz (inv0Ok Tryz.prog _) rfl xsD Tryz.func80 rfl (by kernel_rfl) xrY ((xvH _ _ _ _ _ _ _ (xab (d:=false) a)).trans ?_))
 exact congrArg some b
def xGx:Env:=xK0.with 80 xo6
theorem xCn:OrcOk Tryz.prog ITryz xGx:=xIg.with xvp
def xfa:Env:=xGx.fn 32 0 (lsOf []) (lpsOf [])
theorem xuY:OrcOk Tryz.prog (ITryz.at 0) xfa:=xCn.fn
theorem xr4:LoOk Tryz.prog (ITryz.at xfa.pin) xfa (loopAt Tryz.f79 0):=xaq (by kernel_rfl)
def xhh (c b:LA) (a:Int):=xdW ((b.getD a.toNat .top).cells.getD 0 .top).toList ((b.getD a.toNat .top).cells.getD 1 .top).toInt ((b.getD a.toNat .top).cells.getD 2 .top).toInt ((c.getD a.toNat .top).cells.getD 0 .top).toList ((c.getD a.toNat .top).cells.getD 1 .top).toInt ((c.getD a.toNat .top).cells.getD 2 .top).toInt
def xfU {T:Type} (c b:LA) (d a:Int) (δ:T) (κl:(Int)→T) (κr:(Bool×(Bool)×(Unit))→T):T:=br (decide (a<d)) (br (decide (0≤a)&&decide (a<b.length)) (br (decide (a.toNat<b.length)&&((b.getD a.toNat .top).cells.length==3&&hasShs [Sh.list 3,Sh.int .i64,Sh.int .i64] (b.getD a.toNat .top).cells 0)) (br (decide (0≤a)&&decide (a<c.length)) (br (decide (a.toNat<c.length)&&((c.getD a.toNat .top).cells.length==3&&hasShs [Sh.list 3,Sh.int .i64,Sh.int .i64] (c.getD a.toNat .top).cells 0)) (br ((xhh c b a).isSome) (br (!(xhh c b a).getD false) (κr (true,(false),())) (κl (i64.wrap (a+1)))) δ) δ) δ) δ) δ) (κr (false,false,()))
def xbe (d a:LA) (b:Int):(Int)→Option ((Int)⊕(Bool×(Bool)×(Unit))):=fun (c)=>xfU d a b c none (fun s=>some (.inl s)) (fun p=>some (.inr p))
def xec (d a:LA) (b:Int):(Int)→LA×List Box:=fun (c)=>([AV.list 3 d,AV.func 80 [],AV.list 3 a,AV.int .i64 b,AV.int .i64 c],[])
def xdu (c a:LA) (b:Int):(Bool×(Bool)×(Unit))→LR:=fun p=>(.node p.1 (.leaf .ret [AV.bool p.2.1] []) (.leaf (.exit 0) [.top] []))
abbrev xvr (a:LA) (H:List Box):=XR Tryz.prog xfa [1,2,15,16,17] [6] [] (loopAt Tryz.f79 0) a H
theorem xvB (c a:LA) (b d:Int):Enc (encR (xec c a b) (xdu c a b)) (xbe c a b d) (xvr (xec c a b d).1 (xec c a b d).2):=by
 refine eV (xfU c a b d none (fun s=>some (encR (xec c a b) (xdu c a b) (.inl s))) (fun p=>some (encR (xec c a b) (xdu c a b) (.inr p)))) (by kernel_rfl) ?_;unfold xbe xfU;repeat' first|exact eN|exact eS rfl|apply eB
def xn2:Lp:=lpOf [1,2,15,16,17] [6] [] (pCons (pList 3 pAny) (pCons (pFunc 80 pNil) (pCons (pList 3 pAny) (pCons (pInt .i64) (pCons (pInt .i64) pNil))))) pNil fun (d,(_,(a,(b,(c,_))))) _=>((Iter (xbe d a b) (c)).isSome,xdu d a b ((Iter (xbe d a b) (c)).getD (false,false,())))
theorem xtH:LoopOk Tryz.prog (ITryz.at xfa.pin) xfa.nt (loopAt Tryz.f79 0) xn2:=xaY fun f h i g=>by
 obtain ⟨c,⟨_,⟨a,⟨b,⟨d,_⟩⟩⟩⟩⟩:=f
 obtain ⟨e,rfl⟩:=Prod.mk.inj g
 exact xaG mxTryz (inv0Ok Tryz.prog _) rfl xuY xr4 (xec c a b) (xdu c a b) (fun p=>by simp only [xdu,LR.eval];first|(simp;done)|(repeat' split<;>simp)) (xvB c a b) (s:=(d)) (xab e)
def xgU:Env:=xGx.fn 32 0 (lsOf []) (lpsOf [(4,xn2)])
theorem xur:OrcOk Tryz.prog (ITryz.at 0) xgU:=xCn.fn
theorem xsx:LoOk Tryz.prog (ITryz.at xgU.pin) xgU (Tryz.f79.body.getD .skip):=xaP (ls:=[loopAt Tryz.f79 0]) (by kernel_rfl) (lkC xtH lkN)
def xjP {T:Type} (a b:LA) (δ:T) (κ:Bool→T):T:=br ((↑a.length:Int) != (↑b.length:Int)) (κ (false)) (br ((Iter (xbe b a (↑a.length:Int)) 0).isSome) (br (((Iter (xbe b a (↑a.length:Int)) 0).getD (false,false,())).fst) (κ (((Iter (xbe b a (↑a.length:Int)) 0).getD (false,false,())).snd.fst)) (κ (true))) δ)
def xfE (a b:LA):Option (Bool):=xjP a b none some
theorem xzk (a b:LA):Enc (fun (p:Bool)=>((AV.bool p):AV)) (xfE a b) (XF Tryz.prog xgU Tryz.f79 (Tryz.f79.body.getD .skip) [AV.list 3 a,AV.list 3 b,AV.func (80:FuncId) []]):=by
 refine eV (xjP a b none (fun (p:Bool)=>some ((AV.bool p):AV))) (by kernel_rfl) ?_;unfold xfE xjP;repeat' first|exact eN|exact eS rfl|apply eB
def xrJ:LA→Option (Bool×AV):=ocOf (sCons (sList 3 pAny) (sCons (sList 3 pAny) (sCons (sEq (pFunc (80:FuncId) pNil)) sNil))) fun (a,(b,(_,_)))=>((xfE a b).isSome,(AV.bool ((xfE a b).getD false)))
theorem xzb:OcOk Tryz.prog ITryz 79 (xrJ):=xaN fun f h g=>by
 obtain ⟨a,⟨b,⟨_,_⟩⟩⟩:=f
 obtain ⟨c,e⟩:=Prod.mk.inj g
 refine xaH (p:=xgU.pin) (xaL mxTryz (inv0Ok Tryz.prog _) rfl xur Tryz.func79 rfl (by kernel_rfl) xsx ((xzk _ _ _ (xab (d:=false) c)).trans ?_))
 exact congrArg some e
def xKl:Env:=xGx.with 79 xrJ
theorem xIB:OrcOk Tryz.prog ITryz xKl:=xCn.with xzb
def xfO:Env:=xKl.fn 8 0 (lsOf []) (lpsOf [])
theorem xtu:OrcOk Tryz.prog (ITryz.at 0) xfO:=xIB.fn
theorem xr3:LoOk Tryz.prog (ITryz.at xfO.pin) xfO (Tryz.f51.body.getD .skip):=xaq (by kernel_rfl)
def xiq {T:Type} (a b:LA) (δ:T) (κ:Bool→T):T:=br ((xfE a b).isSome) (κ ((xfE a b).getD false)) δ
def xdt (a b:LA):Option (Bool):=xiq a b none some
theorem xv1 (a b:LA):Enc (fun (p:Bool)=>((AV.bool p):AV)) (xdt a b) (XF Tryz.prog xfO Tryz.f51 (Tryz.f51.body.getD .skip) [AV.list 3 a,AV.list 3 b]):=by
 refine eV (xiq a b none (fun (p:Bool)=>some ((AV.bool p):AV))) (by kernel_rfl) ?_;unfold xdt xiq;repeat' first|exact eN|exact eS rfl|apply eB
def xpy:LA→Option (Bool×AV):=ocOf (sCons (sList 3 pAny) (sCons (sList 3 pAny) sNil)) fun (a,(b,_))=>((xdt a b).isSome,(AV.bool ((xdt a b).getD false)))
theorem xwc:OcOk Tryz.prog ITryz 51 (xpy):=xaN fun f h g=>by
 obtain ⟨a,⟨b,_⟩⟩:=f
 obtain ⟨c,e⟩:=Prod.mk.inj g
 refine xaH (p:=xfO.pin) (xaL mxTryz (inv0Ok Tryz.prog _) rfl xtu Tryz.func51 rfl (by kernel_rfl) xr3 ((xv1 _ _ _ (xab (d:=false) c)).trans ?_))
 exact congrArg some e
def xON:Env:=xKl.with 51 xpy
theorem xN3:OrcOk Tryz.prog ITryz xON:=xIB.with xwc
abbrev xIh:Env:=xON
theorem xFF:OrcOk Tryz.prog ITryz xIh:=xN3
def xiZ:Env:=xIh.fn 10 0 (lsOf []) (lpsOf [])
theorem xyH:OrcOk Tryz.prog (ITryz.at 0) xiZ:=xFF.fn
theorem xvM:LoOk Tryz.prog (ITryz.at xiZ.pin) xiZ (Tryz.f35.body.getD .skip):=xaq (by kernel_rfl)
def xjR {T:Type} (a b:LA) (δ:T) (κ:Bool→T):T:=br ((xa6 a).isSome) (br ((xa6 b).isSome) (br ((xdt ((xa6 a).getD []) ((xa6 b).getD [])).isSome) (κ ((xdt ((xa6 a).getD []) ((xa6 b).getD [])).getD false)) δ) δ) δ
def xcH (a b:LA):Option (Bool):=xjR a b none some
theorem xEi (a b:LA):Enc (fun (p:Bool)=>((AV.bool p):AV)) (xcH a b) (XF Tryz.prog xiZ Tryz.f35 (Tryz.f35.body.getD .skip) [AV.list 3 a,AV.list 3 b]):=by
 refine eV (xjR a b none (fun (p:Bool)=>some ((AV.bool p):AV))) (by kernel_rfl) ?_;unfold xcH xjR;repeat' first|exact eN|exact eS rfl|apply eB
def xtR:LA→Option (Bool×AV):=ocOf (sCons (sList 3 pAny) (sCons (sList 3 pAny) sNil)) fun (a,(b,_))=>((xcH a b).isSome,(AV.bool ((xcH a b).getD false)))
theorem xCN:OcOk Tryz.prog ITryz 35 (xtR):=xaN fun f h g=>by
 obtain ⟨a,⟨b,_⟩⟩:=f
 obtain ⟨c,e⟩:=Prod.mk.inj g
 refine xaH (p:=xiZ.pin) (xaL mxTryz (inv0Ok Tryz.prog _) rfl xyH Tryz.func35 rfl (by kernel_rfl) xvM ((xEi _ _ _ (xab (d:=false) c)).trans ?_))
 exact congrArg some e
def xL6:Env:=xIh.with 35 xtR
theorem xLo:OrcOk Tryz.prog ITryz xL6:=xFF.with xCN
abbrev xM3:Env:=xL6
theorem xMx:OrcOk Tryz.prog ITryz xM3:=xLo
abbrev xL0:Env:=xM3
theorem xLx:OrcOk Tryz.prog ITryz xL0:=xMx
abbrev xLX:Env:=xL0
theorem xMV:OrcOk Tryz.prog ITryz xLX:=xLx
abbrev EKQ:Env:=xLX
theorem xMP:OrcOk Tryz.prog ITryz EKQ:=xMV
end Go.Sim.M
end
noncomputable section
set_option maxRecDepth 100000
namespace Go.Sim.M
open Go.IntKind (i64 u64 u8)
open Go.RowKit Go.Proofs
def xjo:Env:=EKQ.fn 7 0 (lsOf []) (lpsOf [])
theorem xCF:OrcOk Tryz.prog (ITryz.at 0) xjo:=xMP.fn
theorem xAg:LoOk Tryz.prog (ITryz.at xjo.pin) xjo (Tryz.f89.body.getD .skip):=xaq (by kernel_rfl)
def xhg (b a:Bool):Int:=(br (b) (((-1))) (br (a) ((1)) ((0))))
def xvG (b a:Bool):Bool:=true
def xy4 {T:Type} (b a:Bool) (δ:T) (κ:Int→T):T:=br (b) (κ ((-1))) (br (a) (κ (1)) (κ (0)))
theorem xH6 (b a:Bool):Pre (xvG b a) (XF Tryz.prog xjo Tryz.f89 (Tryz.f89.body.getD .skip) [AV.bool b,AV.bool a]) (AV.int .i64 (xhg b a)):=by
 have h:XF Tryz.prog xjo Tryz.f89 (Tryz.f89.body.getD .skip) [AV.bool b,AV.bool a]=xy4 b a none (fun (p:Int)=>some ((AV.int .i64 p):AV)):=by kernel_rfl
 rw [h];unfold xhg xvG xy4;repeat' (first|exact Pre.none|exact Pre.tt rfl|exact Pre.some rfl|refine Pre.l ?_|refine Pre.r ?_|refine Pre.br (f:=fun (p:Int)=>((AV.int .i64 p):AV)) ?_ ?_|refine Pre.brt (f:=fun (p:Int)=>((AV.int .i64 p):AV)) ?_ ?_)
def xzg:LA→Option (Bool×AV):=ocOf (sCons (sEq pBool) (sCons (sEq pBool) sNil)) fun (b,(a,_))=>(true,(AV.int .i64 (xhg b a)))
theorem xHa:OcOk Tryz.prog ITryz 89 (xzg):=xaN fun c g d=>by
 obtain ⟨e,⟨a,_⟩⟩:=c
 obtain ⟨f,b⟩:=Prod.mk.inj d
 refine xaH (p:=xjo.pin) (xaL mxTryz (inv0Ok Tryz.prog _) rfl xCF Tryz.func89 rfl (by kernel_rfl) xAg ((Pre.get (xH6 _ _) rfl).trans ?_))
 exact congrArg some b
def xHQ:Env:=EKQ.with 89 xzg
theorem xFW:OrcOk Tryz.prog ITryz xHQ:=xMP.with xHa
def xhe:Env:=xHQ.fn 48 0 (lsOf []) (lpsOf [])
theorem xyh:OrcOk Tryz.prog (ITryz.at 0) xhe:=xFW.fn
theorem xvd:LoOk Tryz.prog (ITryz.at xhe.pin) xhe (Tryz.f64.body.getD .skip):=xaq (by kernel_rfl)
def xgJ (a b:Int) (c:List UInt8) (d e:Int) (f:List UInt8):Int:=(br (a != d) ((xhg (decide (a<d)) (decide (a>d)))) (br (b != e) ((xhg (decide (b<e)) (decide (b>e)))) ((xhg (Op.bytesLess c f) !(Op.bytesLess c f || c==f)))))
def xso (a b:Int) (c:List UInt8) (d e:Int) (f:List UInt8):Bool:=true
def xue {T:Type} (a b:Int) (c:List UInt8) (d e:Int) (f:List UInt8) (δ:T) (κ:Int→T):T:=br (a != d) (κ (xhg (decide (a<d)) (decide (a>d)))) (br (b != e) (κ (xhg (decide (b<e)) (decide (b>e)))) (κ (xhg (Op.bytesLess c f) !(Op.bytesLess c f || c==f))))
theorem xDO (a b:Int) (c:List UInt8) (d e:Int) (g:List UInt8):Pre (xso a b c d e g) (XF Tryz.prog xhe Tryz.f64 (Tryz.f64.body.getD .skip) [AV.agg [AV.int .i64 a,AV.int .i64 b,AV.str c],AV.agg [AV.int .i64 d,AV.int .i64 e,AV.str g]]) (AV.int .i64 (xgJ a b c d e g)):=by
 have h:XF Tryz.prog xhe Tryz.f64 (Tryz.f64.body.getD .skip) [AV.agg [AV.int .i64 a,AV.int .i64 b,AV.str c],AV.agg [AV.int .i64 d,AV.int .i64 e,AV.str g]]=xue a b c d e g none (fun (p:Int)=>some ((AV.int .i64 p):AV)):=by kernel_rfl
 rw [h];unfold xgJ xso xue;repeat' (first|exact Pre.none|exact Pre.tt rfl|exact Pre.some rfl|refine Pre.l ?_|refine Pre.r ?_|refine Pre.br (f:=fun (p:Int)=>((AV.int .i64 p):AV)) ?_ ?_|refine Pre.brt (f:=fun (p:Int)=>((AV.int .i64 p):AV)) ?_ ?_)
def xt5:LA→Option (Bool×AV):=ocOf (sCons (sAgg (sCons (sEq (pInt .i64)) (sCons (sEq (pInt .i64)) (sCons (sEq pStr) sNil)))) (sCons (sAgg (sCons (sEq (pInt .i64)) (sCons (sEq (pInt .i64)) (sCons (sEq pStr) sNil)))) sNil)) fun ((a,(b,(c,_))),((d,(e,(f,_))),_))=>(true,(AV.int .i64 (xgJ a b c d e f)))
theorem xDA:OcOk Tryz.prog ITryz 64 (xt5):=xaN fun b k c=>by
 obtain ⟨⟨d,⟨e,⟨f,_⟩⟩⟩,⟨⟨g,⟨h,⟨i,_⟩⟩⟩,_⟩⟩:=b
 obtain ⟨j,a⟩:=Prod.mk.inj c
 refine xaH (p:=xhe.pin) (xaL mxTryz (inv0Ok Tryz.prog _) rfl xyh Tryz.func64 rfl (by kernel_rfl) xvd ((Pre.get (xDO _ _ _ _ _ _) rfl).trans ?_))
 exact congrArg some a
def xEd:Env:=xHQ.with 64 xt5
theorem xz7:OrcOk Tryz.prog ITryz xEd:=xFW.with xDA
def xgW:Env:=xEd.fn 41 0 (lsOf []) (lpsOf [])
theorem xyj:OrcOk Tryz.prog (ITryz.at 0) xgW:=xz7.fn
theorem xtF:LoOk Tryz.prog (ITryz.at xgW.pin) xgW (loopAt Tryz.f30 0):=xaq (by kernel_rfl)
def xfr (a b:LA) (i:Int):=xgJ ((a.getD i.toNat .top).cells.getD 0 .top).toInt ((a.getD i.toNat .top).cells.getD 1 .top).toInt ((a.getD i.toNat .top).cells.getD 2 .top).toStr ((b.getD i.toNat .top).cells.getD 0 .top).toInt ((b.getD i.toNat .top).cells.getD 1 .top).toInt ((b.getD i.toNat .top).cells.getD 2 .top).toStr
def xen {T:Type} (a b:LA) (i:Int) (δ:T) (κl:(Int)→T) (κr:(Bool×(Int)×(Unit))→T):T:=br (decide (i<a.length)) (br (decide (i<b.length)) (br (decide (0≤i)&&decide (i<a.length)) (br (decide (i.toNat<a.length)&&((a.getD i.toNat .top).cells.length==3&&hasShs [Sh.int .i64,Sh.int .i64,Sh.str] (a.getD i.toNat .top).cells 0)) (br (decide (0≤i)&&decide (i<b.length)) (br (decide (i.toNat<b.length)&&((b.getD i.toNat .top).cells.length==3&&hasShs [Sh.int .i64,Sh.int .i64,Sh.str] (b.getD i.toNat .top).cells 0)) (br (xfr a b i != 0) (κr (true,(xfr a b i),())) (κl (i64.wrap (i+1)))) δ) δ) δ) δ) (κr (false,0,()))) (κr (false,0,()))
def xa7 (a b:LA):(Int)→Option ((Int)⊕(Bool×(Int)×(Unit))):=fun (i)=>xen a b i none (fun s=>some (.inl s)) (fun p=>some (.inr p))
def xfH (a b:LA):(Int)→LA×List Box:=fun (i)=>([AV.list 3 a,AV.list 3 b,AV.int .i64 i],[])
def xeI (a b:LA):(Bool×(Int)×(Unit))→LR:=fun p=>(.node p.1 (.leaf .ret [AV.list 3 a,AV.list 3 b,AV.int .i64 p.2.1] []) (.leaf (.exit 0) [AV.list 3 a,AV.list 3 b,.top] []))
abbrev xAd (a:LA) (H:List Box):=XR Tryz.prog xgW [0,1,5] [0,1,4] [] (loopAt Tryz.f30 0) a H
theorem xyU (a b:LA) (i:Int):Enc (encR (xfH a b) (xeI a b)) (xa7 a b i) (xAd (xfH a b i).1 (xfH a b i).2):=by
 refine eV (xen a b i none (fun s=>some (encR (xfH a b) (xeI a b) (.inl s))) (fun p=>some (encR (xfH a b) (xeI a b) (.inr p)))) (by kernel_rfl) ?_;unfold xa7 xen;repeat' first|exact eN|exact eS rfl|apply eB
def xqS:Lp:=lpOf [0,1,5] [0,1,4] [] (pCons (pList 3 pAny) (pCons (pList 3 pAny) (pCons (pInt .i64) pNil))) pNil fun (a,(b,(i,_))) _=>((Iter (xa7 a b) (i)).isSome,xeI a b ((Iter (xa7 a b) (i)).getD (false,0,())))
theorem xv4:LoopOk Tryz.prog (ITryz.at xgW.pin) xgW.nt (loopAt Tryz.f30 0) xqS:=xaY fun d f g e=>by
 obtain ⟨a,⟨b,⟨i,_⟩⟩⟩:=d
 obtain ⟨c,rfl⟩:=Prod.mk.inj e
 exact xaG mxTryz (inv0Ok Tryz.prog _) rfl xyj xtF (xfH a b) (xeI a b) (fun p=>by simp only [xeI,LR.eval];first|(simp;done)|(repeat' split<;>simp)) (xyU a b) (s:=(i)) (xab c)
def xiO:Env:=xEd.fn 41 0 (lsOf []) (lpsOf [(2,xqS)])
theorem xyu:OrcOk Tryz.prog (ITryz.at 0) xiO:=xz7.fn
theorem xvq:LoOk Tryz.prog (ITryz.at xiO.pin) xiO (Tryz.f30.body.getD .skip):=xaP (ls:=[loopAt Tryz.f30 0]) (by kernel_rfl) (lkC xv4 lkN)
def xl6 {T:Type} (a b:LA) (δ:T) (κ:Int→T):T:=br ((Iter (xa7 a b) 0).isSome) (br (((Iter (xa7 a b) 0).getD (false,0,())).fst) (κ (((Iter (xa7 a b) 0).getD (false,0,())).snd.fst)) (br (decide ((↑a.length:Int)<(↑b.length:Int))) (κ ((-1))) (br (decide ((↑a.length:Int)>(↑b.length:Int))) (κ (1)) (κ (0))))) δ
def xbh (a b:LA):Option (Int):=xl6 a b none some
theorem xDI (a b:LA):Enc (fun (p:Int)=>((AV.int .i64 p):AV)) (xbh a b) (XF Tryz.prog xiO Tryz.f30 (Tryz.f30.body.getD .skip) [AV.list 3 a,AV.list 3 b]):=by
 refine eV (xl6 a b none (fun (p:Int)=>some ((AV.int .i64 p):AV))) (by kernel_rfl) ?_;unfold xbh xl6;repeat' first|exact eN|exact eS rfl|apply eB
def xud:LA→Option (Bool×AV):=ocOf (sCons (sList 3 pAny) (sCons (sList 3 pAny) sNil)) fun (a,(b,_))=>((xbh a b).isSome,(AV.int .i64 ((xbh a b).getD 0)))
theorem xDq:OcOk Tryz.prog ITryz 30 (xud):=xaN fun f h g=>by
 obtain ⟨a,⟨b,_⟩⟩:=f
 obtain ⟨c,e⟩:=Prod.mk.inj g
 refine xaH (p:=xiO.pin) (xaL mxTryz (inv0Ok Tryz.prog _) rfl xyu Tryz.func30 rfl (by kernel_rfl) xvq ((xDI _ _ _ (xab (d:=0) c)).trans ?_))
 exact congrArg some e
def xIG:Env:=xEd.with 30 xud
theorem xF0:OrcOk Tryz.prog ITryz xIG:=xz7.with xDq
def xlg:Env:=xIG.fn 9 0 (lsOf []) (lpsOf [])
theorem xAN:OrcOk Tryz.prog (ITryz.at 0) xlg:=xF0.fn
theorem xye:LoOk Tryz.prog (ITryz.at xlg.pin) xlg (Tryz.f61.body.getD .skip):=xaq (by kernel_rfl)
def xoi {T:Type} (a b:LA) (δ:T) (κ:Bool→T):T:=br ((xbh a b).isSome) (κ ((xbh a b).getD 0==0)) δ
def xkr (a b:LA):Option (Bool):=xoi a b none some
theorem xGB (a b:LA):Enc (fun (p:Bool)=>((AV.bool p):AV)) (xkr a b) (XF Tryz.prog xlg Tryz.f61 (Tryz.f61.body.getD .skip) [AV.list 3 a,AV.list 3 b]):=by
 refine eV (xoi a b none (fun (p:Bool)=>some ((AV.bool p):AV))) (by kernel_rfl) ?_;unfold xkr xoi;repeat' first|exact eN|exact eS rfl|apply eB
def xw1:LA→Option (Bool×AV):=ocOf (sCons (sList 3 pAny) (sCons (sList 3 pAny) sNil)) fun (a,(b,_))=>((xkr a b).isSome,(AV.bool ((xkr a b).getD false)))
theorem xGA:OcOk Tryz.prog ITryz 61 (xw1):=xaN fun f h g=>by
 obtain ⟨a,⟨b,_⟩⟩:=f
 obtain ⟨c,e⟩:=Prod.mk.inj g
 refine xaH (p:=xlg.pin) (xaL mxTryz (inv0Ok Tryz.prog _) rfl xAN Tryz.func61 rfl (by kernel_rfl) xye ((xGB _ _ _ (xab (d:=false) c)).trans ?_))
 exact congrArg some e
def xC3:Env:=xIG.with 61 xw1
theorem xzm:OrcOk Tryz.prog ITryz xC3:=xF0.with xGA
def xfI:Env:=xC3.fn 42 0 (lsOf []) (lpsOf [])
theorem xvy:OrcOk Tryz.prog (ITryz.at 0) xfI:=xzm.fn
theorem xsC:LoOk Tryz.prog (ITryz.at xfI.pin) xfI (loopAt Tryz.f13 0):=xaq (by kernel_rfl)
def xgc {T:Type} (a b:LA) (i:Int) (δ:T) (κl:(Int)→T) (κr:(Bool×(Bool)×(Unit))→T):T:=br (decide (i<a.length)) (br (decide (0≤i)&&decide (i<a.length)) (br (decide (i.toNat<a.length)&&((a.getD i.toNat .top).cells.length==3&&hasShs [Sh.int .i64,Sh.int .i64] (a.getD i.toNat .top).cells 1)) (br (decide (0≤i)&&decide (i<b.length)) (br (decide (i.toNat<b.length)&&((b.getD i.toNat .top).cells.length==3&&hasShs [Sh.int .i64,Sh.int .i64] (b.getD i.toNat .top).cells 1)) (br (!(((a.getD i.toNat .top).cells.getD 1 .top).toInt==((b.getD i.toNat .top).cells.getD 1 .top).toInt&&(((a.getD i.toNat .top).cells.getD 2 .top).toInt==((b.getD i.toNat .top).cells.getD 2 .top).toInt&&true))) (κr (true,(false),())) (br (decide (0≤i)&&decide (i<a.length)) (br (decide (i.toNat<a.length)&&hasSh1 (Sh.list 3) ((a.getD i.toNat .top).cells.getD 0 .top)) (br (decide (0≤i)&&decide (i<b.length)) (br (decide (i.toNat<b.length)&&hasSh1 (Sh.list 3) ((b.getD i.toNat .top).cells.getD 0 .top)) (br ((xbh ((a.getD i.toNat .top).cells.getD 0 .top).toList ((b.getD i.toNat .top).cells.getD 0 .top).toList).isSome) (br ((xbh ((a.getD i.toNat .top).cells.getD 0 .top).toList ((b.getD i.toNat .top).cells.getD 0 .top).toList).getD 0 != 0) (κr (true,(false),())) (κl (i64.wrap (i+1)))) δ) δ) δ) δ) δ)) δ) δ) δ) δ) (κr (false,false,()))
def xbl (a b:LA):(Int)→Option ((Int)⊕(Bool×(Bool)×(Unit))):=fun (i)=>xgc a b i none (fun s=>some (.inl s)) (fun p=>some (.inr p))
def xez (a b:LA):(Int)→LA×List Box:=fun (i)=>([AV.list 3 a,AV.list 3 b,AV.int .i64 i],[])
def xdQ (a b:LA):(Bool×(Bool)×(Unit))→LR:=fun p=>(.node p.1 (.leaf .ret [AV.bool p.2.1] []) (.leaf (.exit 0) [.top] []))
abbrev xwi (a:LA) (H:List Box):=XR Tryz.prog xfI [0,1,5] [4] [] (loopAt Tryz.f13 0) a H
theorem xwK (a b:LA) (i:Int):Enc (encR (xez a b) (xdQ a b)) (xbl a b i) (xwi (xez a b i).1 (xez a b i).2):=by
 refine eV (xgc a b i none (fun s=>some (encR (xez a b) (xdQ a b) (.inl s))) (fun p=>some (encR (xez a b) (xdQ a b) (.inr p)))) (by kernel_rfl) ?_;unfold xbl xgc;repeat' first|exact eN|exact eS rfl|apply eB
def xo5:Lp:=lpOf [0,1,5] [4] [] (pCons (pList 3 pAny) (pCons (pList 3 pAny) (pCons (pInt .i64) pNil))) pNil fun (a,(b,(i,_))) _=>((Iter (xbl a b) (i)).isSome,xdQ a b ((Iter (xbl a b) (i)).getD (false,false,())))
theorem xuJ:LoopOk Tryz.prog (ITryz.at xfI.pin) xfI.nt (loopAt Tryz.f13 0) xo5:=xaY fun d f g e=>by
 obtain ⟨a,⟨b,⟨i,_⟩⟩⟩:=d
 obtain ⟨c,rfl⟩:=Prod.mk.inj e
 exact xaG mxTryz (inv0Ok Tryz.prog _) rfl xvy xsC (xez a b) (xdQ a b) (fun p=>by simp only [xdQ,LR.eval];first|(simp;done)|(repeat' split<;>simp)) (xwK a b) (s:=(i)) (xab c)
def xho:Env:=xC3.fn 42 0 (lsOf []) (lpsOf [(4,xo5)])
theorem xvV:OrcOk Tryz.prog (ITryz.at 0) xho:=xzm.fn
theorem xtD:LoOk Tryz.prog (ITryz.at xho.pin) xho (Tryz.f13.body.getD .skip):=xaP (ls:=[loopAt Tryz.f13 0]) (by kernel_rfl) (lkC xuJ lkN)
def xkG {T:Type} (a b:LA) (δ:T) (κ:Bool→T):T:=br ((↑a.length:Int) != (↑b.length:Int)) (κ (false)) (br ((Iter (xbl a b) 0).isSome) (br (((Iter (xbl a b) 0).getD (false,false,())).fst) (κ (((Iter (xbl a b) 0).getD (false,false,())).snd.fst)) (κ (true))) δ)
def xdp (a b:LA):Option (Bool):=xkG a b none some
theorem xBt (a b:LA):Enc (fun (p:Bool)=>((AV.bool p):AV)) (xdp a b) (XF Tryz.prog xho Tryz.f13 (Tryz.f13.body.getD .skip) [AV.list 3 a,AV.list 3 b]):=by
 refine eV (xkG a b none (fun (p:Bool)=>some ((AV.bool p):AV))) (by kernel_rfl) ?_;unfold xdp xkG;repeat' first|exact eN|exact eS rfl|apply eB
def xsl:LA→Option (Bool×AV):=ocOf (sCons (sList 3 pAny) (sCons (sList 3 pAny) sNil)) fun (a,(b,_))=>((xdp a b).isSome,(AV.bool ((xdp a b).getD false)))
theorem xBu:OcOk Tryz.prog ITryz 13 (xsl):=xaN fun f h g=>by
 obtain ⟨a,⟨b,_⟩⟩:=f
 obtain ⟨c,e⟩:=Prod.mk.inj g
 refine xaH (p:=xho.pin) (xaL mxTryz (inv0Ok Tryz.prog _) rfl xvV Tryz.func13 rfl (by kernel_rfl) xtD ((xBt _ _ _ (xab (d:=false) c)).trans ?_))
 exact congrArg some e
def xC1:Env:=xC3.with 13 xsl
theorem xAj:OrcOk Tryz.prog ITryz xC1:=xzm.with xBu
def xh1:Env:=xC1.fn 61 0 (lsOf []) (lpsOf [])
theorem xyM:OrcOk Tryz.prog (ITryz.at 0) xh1:=xAj.fn
theorem xux:LoOk Tryz.prog (ITryz.at xh1.pin) xh1 (loopAt Tryz.f98 0):=xaq (by kernel_rfl)
def xel (a b:LA) (i k:Int):=decide ((xbh ((b.getD k.toNat .top).cells.getD 0 .top).toList ((a.getD i.toNat .top).cells.getD 0 .top).toList).getD 0<0)
def xc7 (a:LA) (i:Int):=decide (i.toNat<a.length)&&((a.getD i.toNat .top).cells.length==3&&hasShs [Sh.list 3,Sh.int .i64,Sh.int .i64] (a.getD i.toNat .top).cells 0)
def xc3 (b:LA) (k:Int):=decide (k.toNat<b.length)&&((b.getD k.toNat .top).cells.length==3&&hasShs [Sh.list 3,Sh.int .i64,Sh.int .i64] (b.getD k.toNat .top).cells 0)
def xb4 (a:LA) (i:Int):=decide (0≤i)&&decide (i<a.length)
def xbZ (b:LA) (k:Int):=decide (0≤k)&&decide (k<b.length)
def xdU {T:Type} (a b:LA) (c:Nat) (i k:Int) (d:LA) (δ:T) (κl:(Nat×Int×Int×LA)→T) (κr:(Nat×LA)→T):T:=br (decide (i<a.length)) (br (i==(↑a.length:Int)) (br (xbZ b k) (br (xc3 b k) (br (c==d.length&&(decide ((c+1)*40≤140737488355328)&&decide (c+1≤4611686018427387904))) (κl (c+1,i,i64.wrap (k+1),d++[AV.agg [AV.list 3 ((b.getD k.toNat .top).cells.getD 0 .top).toList,AV.int .i64 ((b.getD k.toNat .top).cells.getD 1 .top).toInt,AV.int .i64 ((b.getD k.toNat .top).cells.getD 2 .top).toInt]])) δ) δ) δ) (br (decide (k<b.length)) (br (xbZ b k) (br (decide (k.toNat<b.length)&&hasSh1 (Sh.list 3) ((b.getD k.toNat .top).cells.getD 0 .top)) (br (xb4 a i) (br (decide (i.toNat<a.length)&&hasSh1 (Sh.list 3) ((a.getD i.toNat .top).cells.getD 0 .top)) (br ((xbh ((b.getD k.toNat .top).cells.getD 0 .top).toList ((a.getD i.toNat .top).cells.getD 0 .top).toList).isSome) (br (xel a b i k) (br (xbZ b k) (br (xc3 b k) (br (c==d.length&&(decide ((c+1)*40≤140737488355328)&&decide (c+1≤4611686018427387904))) (κl (c+1,i,i64.wrap (k+1),d++[AV.agg [AV.list 3 ((b.getD k.toNat .top).cells.getD 0 .top).toList,AV.int .i64 ((b.getD k.toNat .top).cells.getD 1 .top).toInt,AV.int .i64 ((b.getD k.toNat .top).cells.getD 2 .top).toInt]])) δ) δ) δ) (br (xb4 a i) (br (xc7 a i) (br (c==d.length&&(decide ((c+1)*40≤140737488355328)&&decide (c+1≤4611686018427387904))) (κl (c+1,i64.wrap (i+1),k,d++[AV.agg [AV.list 3 ((a.getD i.toNat .top).cells.getD 0 .top).toList,AV.int .i64 ((a.getD i.toNat .top).cells.getD 1 .top).toInt,AV.int .i64 ((a.getD i.toNat .top).cells.getD 2 .top).toInt]])) δ) δ) δ)) δ) δ) δ) δ) δ) (br (xb4 a i) (br (xc7 a i) (br (c==d.length&&(decide ((c+1)*40≤140737488355328)&&decide (c+1≤4611686018427387904))) (κl (c+1,i64.wrap (i+1),k,d++[AV.agg [AV.list 3 ((a.getD i.toNat .top).cells.getD 0 .top).toList,AV.int .i64 ((a.getD i.toNat .top).cells.getD 1 .top).toInt,AV.int .i64 ((a.getD i.toNat .top).cells.getD 2 .top).toInt]])) δ) δ) δ))) (br (decide (k<b.length)) (br (i==(↑a.length:Int)) (br (xbZ b k) (br (xc3 b k) (br (c==d.length&&(decide ((c+1)*40≤140737488355328)&&decide (c+1≤4611686018427387904))) (κl (c+1,i,i64.wrap (k+1),d++[AV.agg [AV.list 3 ((b.getD k.toNat .top).cells.getD 0 .top).toList,AV.int .i64 ((b.getD k.toNat .top).cells.getD 1 .top).toInt,AV.int .i64 ((b.getD k.toNat .top).cells.getD 2 .top).toInt]])) δ) δ) δ) (br (decide (k<b.length)) (br (xbZ b k) (br (decide (k.toNat<b.length)&&hasSh1 (Sh.list 3) ((b.getD k.toNat .top).cells.getD 0 .top)) (br (xb4 a i) (br (decide (i.toNat<a.length)&&hasSh1 (Sh.list 3) ((a.getD i.toNat .top).cells.getD 0 .top)) (br ((xbh ((b.getD k.toNat .top).cells.getD 0 .top).toList ((a.getD i.toNat .top).cells.getD 0 .top).toList).isSome) (br (xel a b i k) (br (xbZ b k) (br (xc3 b k) (br (c==d.length&&(decide ((c+1)*40≤140737488355328)&&decide (c+1≤4611686018427387904))) (κl (c+1,i,i64.wrap (k+1),d++[AV.agg [AV.list 3 ((b.getD k.toNat .top).cells.getD 0 .top).toList,AV.int .i64 ((b.getD k.toNat .top).cells.getD 1 .top).toInt,AV.int .i64 ((b.getD k.toNat .top).cells.getD 2 .top).toInt]])) δ) δ) δ) (br (xb4 a i) (br (xc7 a i) (br (c==d.length&&(decide ((c+1)*40≤140737488355328)&&decide (c+1≤4611686018427387904))) (κl (c+1,i64.wrap (i+1),k,d++[AV.agg [AV.list 3 ((a.getD i.toNat .top).cells.getD 0 .top).toList,AV.int .i64 ((a.getD i.toNat .top).cells.getD 1 .top).toInt,AV.int .i64 ((a.getD i.toNat .top).cells.getD 2 .top).toInt]])) δ) δ) δ)) δ) δ) δ) δ) δ) (br (xb4 a i) (br (xc7 a i) (br (c==d.length&&(decide ((c+1)*40≤140737488355328)&&decide (c+1≤4611686018427387904))) (κl (c+1,i64.wrap (i+1),k,d++[AV.agg [AV.list 3 ((a.getD i.toNat .top).cells.getD 0 .top).toList,AV.int .i64 ((a.getD i.toNat .top).cells.getD 1 .top).toInt,AV.int .i64 ((a.getD i.toNat .top).cells.getD 2 .top).toInt]])) δ) δ) δ))) (κr (c,d)))
def xbj (a b:LA):(Nat×Int×Int×LA)→Option ((Nat×Int×Int×LA)⊕(Nat×LA)):=fun (d,i,k,c)=>xdU a b d i k c none (fun s=>some (.inl s)) (fun p=>some (.inr p))
def xgi (a b:LA):(Nat×Int×Int×LA)→LA×List Box:=fun (d,i,k,c)=>([AV.list 3 a,AV.list 3 b,AV.osl 0 0 0 d,AV.int .i64 i,AV.int .i64 k],[⟨0,3,42,c,false,true⟩])
def xeW (a b:LA):(Nat×LA)→LR:=fun p=>(.leaf (.exit 0) [AV.osl 0 0 0 p.1] [⟨0,3,42,p.2,false,true⟩])
abbrev xAG (a:LA) (H:List Box):=XR Tryz.prog xh1 [0,1,5,6,7] [5] [(5,3,42)] (loopAt Tryz.f98 0) a H
theorem xBl (a b:LA) (s:Nat×Int×Int×LA):Enc (encR (xgi a b) (xeW a b)) (xbj a b s) (xAG (xgi a b s).1 (xgi a b s).2):=by
 obtain ⟨d,i,k,c⟩:=s
 refine eV (xdU a b d i k c none (fun s=>some (encR (xgi a b) (xeW a b) (.inl s))) (fun p=>some (encR (xgi a b) (xeW a b) (.inr p)))) (by kernel_rfl) ?_;unfold xbj xdU;repeat' first|exact eN|exact eS rfl|apply eB
def xrr:Lp:=lpOf [0,1,5,6,7] [5] [(5,3,42)] (pCons (pList 3 pAny) (pCons (pList 3 pAny) (pCons (pOsl 0 0 0) (pCons (pInt .i64) (pCons (pInt .i64) pNil))))) (pCons (pBox 0 3 42 false true pAny) pNil) fun (a,(b,(d,(i,(k,_))))) (c,_)=>((Iter (xbj a b) (d,i,k,c)).isSome,xeW a b ((Iter (xbj a b) (d,i,k,c)).getD (0,[])))
theorem xyG:LoopOk Tryz.prog (ITryz.at xh1.pin) xh1.nt (loopAt Tryz.f98 0) xrr:=xaY fun f g j h=>by
 obtain ⟨a,⟨b,⟨d,⟨i,⟨k,_⟩⟩⟩⟩⟩:=f
 obtain ⟨c,_⟩:=g
 obtain ⟨e,rfl⟩:=Prod.mk.inj h
 exact xaG mxTryz (inv0Ok Tryz.prog _) rfl xyM xux (xgi a b) (xeW a b) (fun p=>by simp only [xeW,LR.eval];first|(simp;done)|(repeat' split<;>simp)) (xBl a b) (s:=(d,i,k,c)) (xab e)
def xkd:Env:=xC1.fn 61 0 (lsOf []) (lpsOf [(3,xrr)])
theorem xzC:OrcOk Tryz.prog (ITryz.at 0) xkd:=xAj.fn
theorem xwQ:LoOk Tryz.prog (ITryz.at xkd.pin) xkd (Tryz.f98.body.getD .skip):=xaP (ls:=[loopAt Tryz.f98 0]) (by kernel_rfl) (lkC xyG lkN)
def xqb (a b:LA):=Iter (xbj a b) (0,0,0,[])
def xpT (a b:LA):=(xqb a b).getD (0,[])
def xp4 (a b:LA):=(xpT a b).fst
def xqo (a b:LA):=(xpT a b).snd
def xnJ {T:Type} (a b:LA) (δ:T) (κ:LA→T):T:=br ((xqb a b).isSome) (br (decide (0+xp4 a b≤(xqo a b).length)&&true) (κ (List.take (xp4 a b) (List.drop 0 (xqo a b)))) δ) δ
def xiU (a b:LA):Option (LA):=xnJ a b none some
theorem xEX (a b:LA):Enc (fun (p:LA)=>((AV.list 3 p):AV)) (xiU a b) (XF Tryz.prog xkd Tryz.f98 (Tryz.f98.body.getD .skip) [AV.list 3 a,AV.list 3 b]):=by
 refine eV (xnJ a b none (fun (p:LA)=>some ((AV.list 3 p):AV))) (by kernel_rfl) ?_;unfold xiU xnJ;repeat' first|exact eN|exact eS rfl|apply eB
def xvD:LA→Option (Bool×AV):=ocOf (sCons (sList 3 pAny) (sCons (sList 3 pAny) sNil)) fun (a,(b,_))=>((xiU a b).isSome,(AV.list 3 ((xiU a b).getD [])))
theorem xFj:OcOk Tryz.prog ITryz 98 (xvD):=xaN fun f h g=>by
 obtain ⟨a,⟨b,_⟩⟩:=f
 obtain ⟨c,e⟩:=Prod.mk.inj g
 refine xaH (p:=xkd.pin) (xaL mxTryz (inv0Ok Tryz.prog _) rfl xzC Tryz.func98 rfl (by kernel_rfl) xwQ ((xEX _ _ _ (xab (d:=[]) c)).trans ?_))
 exact congrArg some e
def xHR:Env:=xC1.with 98 xvD
theorem xGn:OrcOk Tryz.prog ITryz xHR:=xAj.with xFj
def xmI (R:LA→Option (LA)):LA→Option (Bool×AV):=ocOf (sCons (sList 3 pAny) sNil) fun (l,_)=>((R l).isSome,AV.list 3 ((R l).getD []))
def xiW (R:LA→Option (LA)):Env:=(xHR.with 73 (xmI R)).fn 20 0 (lsOf []) (lpsOf [])
def xl1 (R:LA→Option (LA)):Prop:=OcOk Tryz.prog ITryz 73 (xmI R)
theorem xyB (R:LA→Option (LA)) (a:xl1 R):OrcOk Tryz.prog (ITryz.at 0) (xiW R):=(xGn.with a).fn
theorem xvi (R:LA→Option (LA)):LoOk Tryz.prog (ITryz.at (xiW R).pin) (xiW R) (Tryz.f73.body.getD .skip):=xaq (by kernel_rfl)
def xoF (l:LA):=decide (0≤i64.wrap ((↑l.length:Int).tdiv 2))&&decide (i64.wrap ((↑l.length:Int).tdiv 2)≤(↑l.length:Int))
def xoE (R:LA→Option (LA)) (l:LA):Option (LA):=R (List.take (l.length - (i64.wrap ((↑l.length:Int).tdiv 2)).toNat) (List.drop (i64.wrap ((↑l.length:Int).tdiv 2)).toNat l))
def xoA (R:LA→Option (LA)) (l:LA):Option (LA):=xiU ((R (List.take ((i64.wrap ((↑l.length:Int).tdiv 2)).toNat - 0) (List.drop 0 l))).getD []) ((xoE R l).getD [])
def xhA {T:Type} (R:LA→Option (LA)) (l:LA) (δ:T) (κ:LA→T):T:=br (decide ((↑l.length:Int)<2)) (κ (l)) (br (xoF l&&true) (br ((R (List.take ((i64.wrap ((↑l.length:Int).tdiv 2)).toNat - 0) (List.drop 0 l))).isSome) (br (xoF l) (br ((xoE R l).isSome) (br ((xoA R l).isSome) (κ ((xoA R l).getD [])) δ) δ) δ) δ) δ)
def xdI (R:LA→Option (LA)) (l:LA):Option (LA):=xhA R l none some
theorem xC8 (R:LA→Option (LA)) (l:LA):Enc (fun (p:LA)=>((AV.list 3 p):AV)) (xdI R l) (XF Tryz.prog (xiW R) Tryz.f73 (Tryz.f73.body.getD .skip) [AV.list 3 l]):=by
 refine eV (xhA R l none (fun (p:LA)=>some ((AV.list 3 p):AV))) (by kernel_rfl) ?_;unfold xdI xhA;repeat' first|exact eN|exact eS rfl|apply eB
def xC4 (R:LA→Option (LA)):LA→Option (Bool×AV):=ocOf (sCons (sList 3 pAny) sNil) fun (l,_)=>((xdI R l).isSome,(AV.list 3 ((xdI R l).getD [])))
theorem xDx (R:LA→Option (LA)) (c:xl1 R):OcOk Tryz.prog ITryz 73 (xC4 R):=xaN fun e g f=>by
 obtain ⟨l,_⟩:=e
 obtain ⟨a,b⟩:=Prod.mk.inj f
 refine xaH (p:=(xiW R).pin) (xaL mxTryz (inv0Ok Tryz.prog _) rfl (xyB R c) Tryz.func73 rfl (by kernel_rfl) (xvi R) ((xC8 R _ _ (xab (d:=[]) a)).trans ?_))
 exact congrArg some b
def xc1:Nat→LA→Option (LA)
 | 0=>fun _=>none
 | fu_+1=>fun l=>xdI (xc1 fu_) l
theorem xrt:∀ n,xl1 (xc1 n)
 | 0=>xaN fun _ _ h=>absurd (Prod.mk.inj h).1 Bool.false_ne_true
 | fu_+1=>fun a r h=>xDx (xc1 fu_) (xrt fu_) a r h
def xIs:Env:=xHR.with 73 (xmI (xc1 100))
theorem xFN:OrcOk Tryz.prog ITryz xIs:=xGn.with (xrt _)
def xiJ:Env:=xIs.fn 18 0 (lsOf []) (lpsOf [])
theorem xAT:OrcOk Tryz.prog (ITryz.at 0) xiJ:=xFN.fn
theorem xyy:LoOk Tryz.prog (ITryz.at xiJ.pin) xiJ (Tryz.f56.body.getD .skip):=xaq (by kernel_rfl)
def xhj (a b:Int):Bool:=(br (decide (a≥0)) (br (decide (a<b)) ((decide (b≤1099511627776))) ((false))) ((false)))
def xt0 (a b:Int):Bool:=true
def xwS {T:Type} (a b:Int) (δ:T) (κ:Bool→T):T:=br (decide (a≥0)) (br (decide (a<b)) (κ (decide (b≤1099511627776))) (κ (false))) (κ (false))
theorem xGN (a b:Int):Pre (xt0 a b) (XF Tryz.prog xiJ Tryz.f56 (Tryz.f56.body.getD .skip) [AV.agg [AV.int .i64 a,AV.int .i64 b]]) (AV.bool (xhj a b)):=by
 have h:XF Tryz.prog xiJ Tryz.f56 (Tryz.f56.body.getD .skip) [AV.agg [AV.int .i64 a,AV.int .i64 b]]=xwS a b none (fun (p:Bool)=>some ((AV.bool p):AV)):=by kernel_rfl
 rw [h];unfold xhj xt0 xwS;repeat' (first|exact Pre.none|exact Pre.tt rfl|exact Pre.some rfl|refine Pre.l ?_|refine Pre.r ?_|refine Pre.br (f:=fun (p:Bool)=>((AV.bool p):AV)) ?_ ?_|refine Pre.brt (f:=fun (p:Bool)=>((AV.bool p):AV)) ?_ ?_)
def xwY:LA→Option (Bool×AV):=ocOf (sCons (sAgg (sCons (sEq (pInt .i64)) (sCons (sEq (pInt .i64)) sNil))) sNil) fun ((a,(b,_)),_)=>(true,(AV.bool (xhj a b)))
theorem xGz:OcOk Tryz.prog ITryz 56 (xwY):=xaN fun b g c=>by
 obtain ⟨⟨d,⟨e,_⟩⟩,_⟩:=b
 obtain ⟨f,a⟩:=Prod.mk.inj c
 refine xaH (p:=xiJ.pin) (xaL mxTryz (inv0Ok Tryz.prog _) rfl xAT Tryz.func56 rfl (by kernel_rfl) xyy ((Pre.get (xGN _ _) rfl).trans ?_))
 exact congrArg some a
def xHB:Env:=xIs.with 56 xwY
theorem xF4:OrcOk Tryz.prog ITryz xHB:=xFN.with xGz
def xgz:Env:=xHB.fn 19 0 (lsOf []) (lpsOf [])
theorem xwd:OrcOk Tryz.prog (ITryz.at 0) xgz:=xF4.fn
theorem xuA:LoOk Tryz.prog (ITryz.at xgz.pin) xgz (Tryz.f26.body.getD .skip):=xaq (by kernel_rfl)
def xiN (a b t:Int):Bool:=(br (xhj a b) (br (decide (a≤t)) ((decide (t<b))) ((false))) ((false)))
def xrC (a b t:Int):Bool:=true
def xtr {T:Type} (a b t:Int) (δ:T) (κ:Bool→T):T:=br (xhj a b) (br (decide (a≤t)) (κ (decide (t<b))) (κ (false))) (κ (false))
theorem xBZ (a b t:Int):Pre (xrC a b t) (XF Tryz.prog xgz Tryz.f26 (Tryz.f26.body.getD .skip) [AV.agg [AV.int .i64 a,AV.int .i64 b],AV.int .i64 t]) (AV.bool (xiN a b t)):=by
 have h:XF Tryz.prog xgz Tryz.f26 (Tryz.f26.body.getD .skip) [AV.agg [AV.int .i64 a,AV.int .i64 b],AV.int .i64 t]=xtr a b t none (fun (p:Bool)=>some ((AV.bool p):AV)):=by kernel_rfl
 rw [h];unfold xiN xrC xtr;repeat' (first|exact Pre.none|exact Pre.tt rfl|exact Pre.some rfl|refine Pre.l ?_|refine Pre.r ?_|refine Pre.br (f:=fun (p:Bool)=>((AV.bool p):AV)) ?_ ?_|refine Pre.brt (f:=fun (p:Bool)=>((AV.bool p):AV)) ?_ ?_)
def xsX:LA→Option (Bool×AV):=ocOf (sCons (sAgg (sCons (sEq (pInt .i64)) (sCons (sEq (pInt .i64)) sNil))) (sCons (sEq (pInt .i64)) sNil)) fun ((a,(b,_)),(t,_))=>(true,(AV.bool (xiN a b t)))
theorem xCq:OcOk Tryz.prog ITryz 26 (xsX):=xaN fun b g c=>by
 obtain ⟨⟨d,⟨e,_⟩⟩,⟨t,_⟩⟩:=b
 obtain ⟨f,a⟩:=Prod.mk.inj c
 refine xaH (p:=xgz.pin) (xaL mxTryz (inv0Ok Tryz.prog _) rfl xwd Tryz.func26 rfl (by kernel_rfl) xuA ((Pre.get (xBZ _ _ _) rfl).trans ?_))
 exact congrArg some a
def xHM:Env:=xHB.with 26 xsX
theorem xFx:OrcOk Tryz.prog ITryz xHM:=xF4.with xCq
def xg0:Env:=xHM.fn 27 0 (lsOf []) (lpsOf [])
theorem xyq:OrcOk Tryz.prog (ITryz.at 0) xg0:=xFx.fn
theorem xu9:LoOk Tryz.prog (ITryz.at xg0.pin) xg0 (Tryz.f31.body.getD .skip):=xaq (by kernel_rfl)
def xjp (a b c d:Int):Int:=(br (a==c&&(b==d&&true)) ((0)) (br (decide (a<c)) (((-1))) (br (a==c) (br (decide (b<d)) (((-1))) ((1))) ((1)))))
def xsm (a b c d:Int):Bool:=true
def xtP {T:Type} (a b c d:Int) (δ:T) (κ:Int→T):T:=br (a==c&&(b==d&&true)) (κ (0)) (br (decide (a<c)) (κ ((-1))) (br (a==c) (br (decide (b<d)) (κ ((-1))) (κ (1))) (κ (1))))
theorem xCZ (a b c d:Int):Pre (xsm a b c d) (XF Tryz.prog xg0 Tryz.f31 (Tryz.f31.body.getD .skip) [AV.agg [AV.int .i64 a,AV.int .i64 b],AV.agg [AV.int .i64 c,AV.int .i64 d]]) (AV.int .i64 (xjp a b c d)):=by
 have h:XF Tryz.prog xg0 Tryz.f31 (Tryz.f31.body.getD .skip) [AV.agg [AV.int .i64 a,AV.int .i64 b],AV.agg [AV.int .i64 c,AV.int .i64 d]]=xtP a b c d none (fun (p:Int)=>some ((AV.int .i64 p):AV)):=by kernel_rfl
 rw [h];unfold xjp xsm xtP;repeat' (first|exact Pre.none|exact Pre.tt rfl|exact Pre.some rfl|refine Pre.l ?_|refine Pre.r ?_|refine Pre.br (f:=fun (p:Int)=>((AV.int .i64 p):AV)) ?_ ?_|refine Pre.brt (f:=fun (p:Int)=>((AV.int .i64 p):AV)) ?_ ?_)
def xuh:LA→Option (Bool×AV):=ocOf (sCons (sAgg (sCons (sEq (pInt .i64)) (sCons (sEq (pInt .i64)) sNil))) (sCons (sAgg (sCons (sEq (pInt .i64)) (sCons (sEq (pInt .i64)) sNil))) sNil)) fun ((a,(b,_)),((c,(d,_)),_))=>(true,(AV.int .i64 (xjp a b c d)))
theorem xCT:OcOk Tryz.prog ITryz 31 (xuh):=xaN fun b i c=>by
 obtain ⟨⟨d,⟨e,_⟩⟩,⟨⟨f,⟨g,_⟩⟩,_⟩⟩:=b
 obtain ⟨h,a⟩:=Prod.mk.inj c
 refine xaH (p:=xg0.pin) (xaL mxTryz (inv0Ok Tryz.prog _) rfl xyq Tryz.func31 rfl (by kernel_rfl) xu9 ((Pre.get (xCZ _ _ _ _) rfl).trans ?_))
 exact congrArg some a
def xJs:Env:=xHM.with 31 xuh
theorem xK7:OrcOk Tryz.prog ITryz xJs:=xFx.with xCT
abbrev xJB:Env:=xJs
theorem xKr:OrcOk Tryz.prog ITryz xJB:=xK7
abbrev xJ0:Env:=xJB
theorem xLb:OrcOk Tryz.prog ITryz xJ0:=xKr
abbrev xJK:Env:=xJ0
theorem xJ9:OrcOk Tryz.prog ITryz xJK:=xLb
abbrev xEB:Env:=xJK
theorem xDB:OrcOk Tryz.prog ITryz xEB:=xJ9
def xjl:Env:=xEB.fn 2 0 (lsOf []) (lpsOf [])
theorem xB6:OrcOk Tryz.prog (ITryz.at 0) xjl:=xDB.fn
theorem xyi:LoOk Tryz.prog (ITryz.at xjl.pin) xjl (Tryz.f175.body.getD .skip):=xaq (by kernel_rfl)
def xlq:Int×Int×List UInt8:=((0,0,[]))
def xvZ:Bool:=true
def xzp {T:Type} (δ:T) (κ:Int×Int×List UInt8→T):T:=κ (0,0,[])
theorem xII:Pre (xvZ) (XF Tryz.prog xjl Tryz.f175 (Tryz.f175.body.getD .skip) []) (AV.agg [AV.int .i64 xlq.1,AV.int .i64 xlq.2.1,AV.str xlq.2.2]):=by
 have h:XF Tryz.prog xjl Tryz.f175 (Tryz.f175.body.getD .skip) []=xzp none (fun (p:Int×Int×List UInt8)=>some ((AV.agg [AV.int .i64 p.1,AV.int .i64 p.2.1,AV.str p.2.2]):AV)):=by kernel_rfl
 rw [h];unfold xlq xvZ xzp;repeat' (first|exact Pre.none|exact Pre.tt rfl|exact Pre.some rfl|refine Pre.l ?_|refine Pre.r ?_|refine Pre.br (f:=fun (p:Int×Int×List UInt8)=>((AV.agg [AV.int .i64 p.1,AV.int .i64 p.2.1,AV.str p.2.2]):AV)) ?_ ?_|refine Pre.brt (f:=fun (p:Int×Int×List UInt8)=>((AV.agg [AV.int .i64 p.1,AV.int .i64 p.2.1,AV.str p.2.2]):AV)) ?_ ?_)
def xyN:LA→Option (Bool×AV):=ocOf sNil fun _=>(true,(AV.agg [AV.int .i64 xlq.1,AV.int .i64 xlq.2.1,AV.str xlq.2.2]))
theorem xIn:OcOk Tryz.prog ITryz 175 (xyN):=xaN fun d e b=>by
 obtain ⟨c,a⟩:=Prod.mk.inj b
 refine xaH (p:=xjl.pin) (xaL mxTryz (inv0Ok Tryz.prog _) rfl xB6 Tryz.func175 rfl (by kernel_rfl) xyi ((Pre.get (xII) rfl).trans ?_))
 exact congrArg some a
def xE0:Env:=xEB.with 175 xyN
theorem xCR:OrcOk Tryz.prog ITryz xE0:=xDB.with xIn
def xoa:Env:=xE0.fn 18 0 (lsOf []) (lpsOf [])
theorem xFq:OrcOk Tryz.prog (ITryz.at 0) xoa:=xCR.fn
theorem xAV:LoOk Tryz.prog (ITryz.at xoa.pin) xoa (Tryz.f156.body.getD .skip):=xaq (by kernel_rfl)
def xwg {T:Type} (a:LA) (i:Int) (δ:T) (κ:Int×Int×List UInt8→T):T:=br (decide (i<0)) (κ (0,0,[])) (br (decide (i≥a.length)) (κ (0,0,[])) (br (decide (0≤i)&&decide (i<a.length)) (br (decide (i.toNat<a.length)&&((a.getD i.toNat .top).cells.length==3&&hasShs [Sh.int .i64,Sh.int .i64,Sh.str] (a.getD i.toNat .top).cells 0)) (κ (((a.getD i.toNat .top).cells.getD 0 .top).toInt,((a.getD i.toNat .top).cells.getD 1 .top).toInt,((a.getD i.toNat .top).cells.getD 2 .top).toStr)) δ) δ))
def xkm (a:LA) (i:Int):Option (Int×Int×List UInt8):=xwg a i none some
theorem xKN (a:LA) (i:Int):Enc (fun (p:Int×Int×List UInt8)=>((AV.agg [AV.int .i64 p.1,AV.int .i64 p.2.1,AV.str p.2.2]):AV)) (xkm a i) (XF Tryz.prog xoa Tryz.f156 (Tryz.f156.body.getD .skip) [AV.list 3 a,AV.int .i64 i]):=by
 refine eV (xwg a i none (fun (p:Int×Int×List UInt8)=>some ((AV.agg [AV.int .i64 p.1,AV.int .i64 p.2.1,AV.str p.2.2]):AV))) (by kernel_rfl) ?_;unfold xkm xwg;repeat' first|exact eN|exact eS rfl|apply eB
def xD1:LA→Option (Bool×AV):=ocOf (sCons (sList 3 pAny) (sCons (sEq (pInt .i64)) sNil)) fun (a,(i,_))=>((xkm a i).isSome,(AV.agg [AV.int .i64 ((xkm a i).getD (0,0,[])).1,AV.int .i64 ((xkm a i).getD (0,0,[])).2.1,AV.str ((xkm a i).getD (0,0,[])).2.2]))
theorem xKd:OcOk Tryz.prog ITryz 156 (xD1):=xaN fun c g e=>by
 obtain ⟨f,⟨i,_⟩⟩:=c
 obtain ⟨a,b⟩:=Prod.mk.inj e
 refine xaH (p:=xoa.pin) (xaL mxTryz (inv0Ok Tryz.prog _) rfl xFq Tryz.func156 rfl (by kernel_rfl) xAV ((xKN _ _ _ (xab (d:=(0,0,[])) a)).trans ?_))
 exact congrArg some b
def xAv:Env:=xE0.with 156 xD1
theorem xwl:OrcOk Tryz.prog ITryz xAv:=xCR.with xKd
def xhz:Env:=xAv.fn 44 0 (lsOf []) (lpsOf [])
theorem xzu:OrcOk Tryz.prog (ITryz.at 0) xhz:=xwl.fn
theorem xtz:LoOk Tryz.prog (ITryz.at xhz.pin) xhz (loopAt Tryz.f136 0):=xaq (by kernel_rfl)
def xmn (o:LA) (i:Int):=decide (0≤i)&&decide (i<o.length)
def xrp (b o:LA) (i:Int):=(xkm b ((o.getD i.toNat .top).cells.getD 0 .top).toInt).getD (0,0,[])
def xrv (a o:LA) (i:Int):=(xkm a ((o.getD i.toNat .top).cells.getD 0 .top).toInt).getD (0,0,[])
def xrA (b o:LA) (i:Int):=(xrp b o i).snd
def xrX (a o:LA) (i:Int):=(xrv a o i).snd
def xrH (a b o:LA) (i:Int):=xgJ (xrv a o i).fst (xrX a o i).fst (xrX a o i).snd (xrp b o i).fst (xrA b o i).fst (xrA b o i).snd
def xkD {T:Type} (a b o:LA) (i:Int) (δ:T) (κl:(Int)→T) (κr:(Bool×(Bool)×(Unit))→T):T:=br (decide (i<o.length)) (br (xmn o i) (br (decide (i.toNat<o.length)&&hasSh1 (Sh.int .i64) ((o.getD i.toNat .top).cells.getD 0 .top)) (br ((xkm a ((o.getD i.toNat .top).cells.getD 0 .top).toInt).isSome) (br (xmn o i) (br (decide (i.toNat<o.length)&&hasSh1 (Sh.int .i64) ((o.getD i.toNat .top).cells.getD 0 .top)) (br ((xkm b ((o.getD i.toNat .top).cells.getD 0 .top).toInt).isSome) (br (xrH a b o i != 0) (br (xmn o i) (br (decide (i.toNat<o.length)&&hasSh1 Sh.bool ((o.getD i.toNat .top).cells.getD 1 .top)) (κr (true,(!decide (xrH a b o i<0)==((o.getD i.toNat .top).cells.getD 1 .top).toBool),())) δ) δ) (κl (i64.wrap (i+1)))) δ) δ) δ) δ) δ) δ) (κr (false,false,()))
def xcu (a b o:LA):(Int)→Option ((Int)⊕(Bool×(Bool)×(Unit))):=fun (i)=>xkD a b o i none (fun s=>some (.inl s)) (fun p=>some (.inr p))
def xgu (a b o:LA):(Int)→LA×List Box:=fun (i)=>([AV.list 3 a,AV.list 3 b,AV.list 2 o,AV.int .i64 i],[])
def xfd (a b o:LA):(Bool×(Bool)×(Unit))→LR:=fun p=>(.node p.1 (.leaf .ret [AV.list 3 a,AV.list 3 b,AV.bool p.2.1] []) (.leaf (.exit 0) [AV.list 3 a,AV.list 3 b,.top] []))
abbrev xAZ (a:LA) (H:List Box):=XR Tryz.prog xhz [0,1,2,7] [0,1,6] [] (loopAt Tryz.f136 0) a H
theorem xAx (a b o:LA) (i:Int):Enc (encR (xgu a b o) (xfd a b o)) (xcu a b o i) (xAZ (xgu a b o i).1 (xgu a b o i).2):=by
 refine eV (xkD a b o i none (fun s=>some (encR (xgu a b o) (xfd a b o) (.inl s))) (fun p=>some (encR (xgu a b o) (xfd a b o) (.inr p)))) (by kernel_rfl) ?_;unfold xcu xkD;repeat' first|exact eN|exact eS rfl|apply eB
def xrT:Lp:=lpOf [0,1,2,7] [0,1,6] [] (pCons (pList 3 pAny) (pCons (pList 3 pAny) (pCons (pList 2 pAny) (pCons (pInt .i64) pNil)))) pNil fun (a,(b,(o,(i,_)))) _=>((Iter (xcu a b o) (i)).isSome,xfd a b o ((Iter (xcu a b o) (i)).getD (false,false,())))
theorem xyD:LoopOk Tryz.prog (ITryz.at xhz.pin) xhz.nt (loopAt Tryz.f136 0) xrT:=xaY fun d f g e=>by
 obtain ⟨a,⟨b,⟨o,⟨i,_⟩⟩⟩⟩:=d
 obtain ⟨c,rfl⟩:=Prod.mk.inj e
 exact xaG mxTryz (inv0Ok Tryz.prog _) rfl xzu xtz (xgu a b o) (xfd a b o) (fun p=>by simp only [xfd,LR.eval];first|(simp;done)|(repeat' split<;>simp)) (xAx a b o) (s:=(i)) (xab c)
def xjE:Env:=xAv.fn 44 0 (lsOf []) (lpsOf [(2,xrT)])
theorem xy9:OrcOk Tryz.prog (ITryz.at 0) xjE:=xwl.fn
theorem xvk:LoOk Tryz.prog (ITryz.at xjE.pin) xjE (Tryz.f136.body.getD .skip):=xaP (ls:=[loopAt Tryz.f136 0]) (by kernel_rfl) (lkC xyD lkN)
def xnH {T:Type} (a b o:LA) (δ:T) (κ:Bool→T):T:=br ((Iter (xcu a b o) 0).isSome) (br (((Iter (xcu a b o) 0).getD (false,false,())).fst) (κ (((Iter (xcu a b o) 0).getD (false,false,())).snd.fst)) (br ((xbh a b).isSome) (κ (decide ((xbh a b).getD 0<0))) δ)) δ
def xfv (a b o:LA):Option (Bool):=xnH a b o none some
theorem xFu (a b o:LA):Enc (fun (p:Bool)=>((AV.bool p):AV)) (xfv a b o) (XF Tryz.prog xjE Tryz.f136 (Tryz.f136.body.getD .skip) [AV.list 3 a,AV.list 3 b,AV.list 2 o]):=by
 refine eV (xnH a b o none (fun (p:Bool)=>some ((AV.bool p):AV))) (by kernel_rfl) ?_;unfold xfv xnH;repeat' first|exact eN|exact eS rfl|apply eB
def xvf:LA→Option (Bool×AV):=ocOf (sCons (sList 3 pAny) (sCons (sList 3 pAny) (sCons (sList 2 pAny) sNil))) fun (a,(b,(o,_)))=>((xfv a b o).isSome,(AV.bool ((xfv a b o).getD false)))
theorem xFc:OcOk Tryz.prog ITryz 136 (xvf):=xaN fun f h g=>by
 obtain ⟨a,⟨b,⟨o,_⟩⟩⟩:=f
 obtain ⟨c,e⟩:=Prod.mk.inj g
 refine xaH (p:=xjE.pin) (xaL mxTryz (inv0Ok Tryz.prog _) rfl xy9 Tryz.func136 rfl (by kernel_rfl) xvk ((xFu _ _ _ _ (xab (d:=false) c)).trans ?_))
 exact congrArg some e
def xAu:Env:=xAv.with 136 xvf
theorem xv9:OrcOk Tryz.prog ITryz xAu:=xwl.with xFc
def xh4:Env:=xAu.fn 62 0 (lsOf []) (lpsOf [])
theorem xzY:OrcOk Tryz.prog (ITryz.at 0) xh4:=xv9.fn
theorem xtG:LoOk Tryz.prog (ITryz.at xh4.pin) xh4 (loopAt Tryz.f110 0):=xaq (by kernel_rfl)
def xb0 (a:LA) (i:Int):=decide (i.toNat<a.length)&&hasSh1 (Sh.list 3) ((a.getD i.toNat .top).cells.getD 0 .top)
def xbx (b:LA) (k:Int):=decide (k.toNat<b.length)&&hasSh1 (Sh.list 3) ((b.getD k.toNat .top).cells.getD 0 .top)
def xb1 (b:LA) (k:Int):=decide (0≤k)&&decide (k<b.length)
def xb2 (a:LA) (i:Int):=decide (0≤i)&&decide (i<a.length)
def xdT {T:Type} (a b o:LA) (c:Nat) (i k:Int) (d:LA) (δ:T) (κl:(Nat×Int×Int×LA)→T) (κr:(Nat×LA)→T):T:=br (decide (i<a.length)) (br (i==(↑a.length:Int)) (br (xb1 b k) (br (xbx b k) (br (c==d.length&&(decide ((c+1)*24≤140737488355328)&&decide (c+1≤4611686018427387904))) (κl (c+1,i,i64.wrap (k+1),d++[AV.list 3 ((b.getD k.toNat .top).cells.getD 0 .top).toList])) δ) δ) δ) (br (decide (k<b.length)) (br (xb1 b k) (br (xbx b k) (br (xb2 a i) (br (xb0 a i) (br ((xfv ((b.getD k.toNat .top).cells.getD 0 .top).toList ((a.getD i.toNat .top).cells.getD 0 .top).toList o).isSome) (br ((xfv ((b.getD k.toNat .top).cells.getD 0 .top).toList ((a.getD i.toNat .top).cells.getD 0 .top).toList o).getD false) (br (xb1 b k) (br (xbx b k) (br (c==d.length&&(decide ((c+1)*24≤140737488355328)&&decide (c+1≤4611686018427387904))) (κl (c+1,i,i64.wrap (k+1),d++[AV.list 3 ((b.getD k.toNat .top).cells.getD 0 .top).toList])) δ) δ) δ) (br (xb2 a i) (br (xb0 a i) (br (c==d.length&&(decide ((c+1)*24≤140737488355328)&&decide (c+1≤4611686018427387904))) (κl (c+1,i64.wrap (i+1),k,d++[AV.list 3 ((a.getD i.toNat .top).cells.getD 0 .top).toList])) δ) δ) δ)) δ) δ) δ) δ) δ) (br (xb2 a i) (br (xb0 a i) (br (c==d.length&&(decide ((c+1)*24≤140737488355328)&&decide (c+1≤4611686018427387904))) (κl (c+1,i64.wrap (i+1),k,d++[AV.list 3 ((a.getD i.toNat .top).cells.getD 0 .top).toList])) δ) δ) δ))) (br (decide (k<b.length)) (br (i==(↑a.length:Int)) (br (xb1 b k) (br (xbx b k) (br (c==d.length&&(decide ((c+1)*24≤140737488355328)&&decide (c+1≤4611686018427387904))) (κl (c+1,i,i64.wrap (k+1),d++[AV.list 3 ((b.getD k.toNat .top).cells.getD 0 .top).toList])) δ) δ) δ) (br (decide (k<b.length)) (br (xb1 b k) (br (xbx b k) (br (xb2 a i) (br (xb0 a i) (br ((xfv ((b.getD k.toNat .top).cells.getD 0 .top).toList ((a.getD i.toNat .top).cells.getD 0 .top).toList o).isSome) (br ((xfv ((b.getD k.toNat .top).cells.getD 0 .top).toList ((a.getD i.toNat .top).cells.getD 0 .top).toList o).getD false) (br (xb1 b k) (br (xbx b k) (br (c==d.length&&(decide ((c+1)*24≤140737488355328)&&decide (c+1≤4611686018427387904))) (κl (c+1,i,i64.wrap (k+1),d++[AV.list 3 ((b.getD k.toNat .top).cells.getD 0 .top).toList])) δ) δ) δ) (br (xb2 a i) (br (xb0 a i) (br (c==d.length&&(decide ((c+1)*24≤140737488355328)&&decide (c+1≤4611686018427387904))) (κl (c+1,i64.wrap (i+1),k,d++[AV.list 3 ((a.getD i.toNat .top).cells.getD 0 .top).toList])) δ) δ) δ)) δ) δ) δ) δ) δ) (br (xb2 a i) (br (xb0 a i) (br (c==d.length&&(decide ((c+1)*24≤140737488355328)&&decide (c+1≤4611686018427387904))) (κl (c+1,i64.wrap (i+1),k,d++[AV.list 3 ((a.getD i.toNat .top).cells.getD 0 .top).toList])) δ) δ) δ))) (κr (c,d)))
def xbg (a b o:LA):(Nat×Int×Int×LA)→Option ((Nat×Int×Int×LA)⊕(Nat×LA)):=fun (d,i,k,c)=>xdT a b o d i k c none (fun s=>some (.inl s)) (fun p=>some (.inr p))
def xgg (a b o:LA):(Nat×Int×Int×LA)→LA×List Box:=fun (d,i,k,c)=>([AV.list 1 a,AV.list 1 b,AV.list 2 o,AV.osl 0 0 0 d,AV.int .i64 i,AV.int .i64 k],[⟨0,1,40,c,false,true⟩])
def xeX (a b o:LA):(Nat×LA)→LR:=fun p=>(.leaf (.exit 0) [AV.osl 0 0 0 p.1] [⟨0,1,40,p.2,false,true⟩])
abbrev xA2 (a:LA) (H:List Box):=XR Tryz.prog xh4 [0,1,2,7,8,9] [7] [(7,1,40)] (loopAt Tryz.f110 0) a H
theorem xBc (a b o:LA) (s:Nat×Int×Int×LA):Enc (encR (xgg a b o) (xeX a b o)) (xbg a b o s) (xA2 (xgg a b o s).1 (xgg a b o s).2):=by
 obtain ⟨d,i,k,c⟩:=s
 refine eV (xdT a b o d i k c none (fun s=>some (encR (xgg a b o) (xeX a b o) (.inl s))) (fun p=>some (encR (xgg a b o) (xeX a b o) (.inr p)))) (by kernel_rfl) ?_;unfold xbg xdT;repeat' first|exact eN|exact eS rfl|apply eB
def xrM:Lp:=lpOf [0,1,2,7,8,9] [7] [(7,1,40)] (pCons (pList 1 pAny) (pCons (pList 1 pAny) (pCons (pList 2 pAny) (pCons (pOsl 0 0 0) (pCons (pInt .i64) (pCons (pInt .i64) pNil)))))) (pCons (pBox 0 1 40 false true pAny) pNil) fun (a,(b,(o,(d,(i,(k,_)))))) (c,_)=>((Iter (xbg a b o) (d,i,k,c)).isSome,xeX a b o ((Iter (xbg a b o) (d,i,k,c)).getD (0,[])))
theorem xyr:LoopOk Tryz.prog (ITryz.at xh4.pin) xh4.nt (loopAt Tryz.f110 0) xrM:=xaY fun f g j h=>by
 obtain ⟨a,⟨b,⟨o,⟨d,⟨i,⟨k,_⟩⟩⟩⟩⟩⟩:=f
 obtain ⟨c,_⟩:=g
 obtain ⟨e,rfl⟩:=Prod.mk.inj h
 exact xaG mxTryz (inv0Ok Tryz.prog _) rfl xzY xtG (xgg a b o) (xeX a b o) (fun p=>by simp only [xeX,LR.eval];first|(simp;done)|(repeat' split<;>simp)) (xBc a b o) (s:=(d,i,k,c)) (xab e)
def xki:Env:=xAu.fn 62 0 (lsOf []) (lpsOf [(3,xrM)])
theorem xzP:OrcOk Tryz.prog (ITryz.at 0) xki:=xv9.fn
theorem xvI:LoOk Tryz.prog (ITryz.at xki.pin) xki (Tryz.f110.body.getD .skip):=xaP (ls:=[loopAt Tryz.f110 0]) (by kernel_rfl) (lkC xyr lkN)
def xqk (a b o:LA):=Iter (xbg a b o) (0,0,0,[])
def xpr (a b o:LA):=(xqk a b o).getD (0,[])
def xpW (a b o:LA):=(xpr a b o).snd
def xqd (a b o:LA):=(xpr a b o).fst
def xns {T:Type} (a b o:LA) (δ:T) (κ:LA→T):T:=br ((xqk a b o).isSome) (br (decide (0+xqd a b o≤(xpW a b o).length)&&true) (κ (List.take (xqd a b o) (List.drop 0 (xpW a b o)))) δ) δ
def xiV (a b o:LA):Option (LA):=xns a b o none some
theorem xEA (a b o:LA):Enc (fun (p:LA)=>((AV.list 1 p):AV)) (xiV a b o) (XF Tryz.prog xki Tryz.f110 (Tryz.f110.body.getD .skip) [AV.list 1 a,AV.list 1 b,AV.list 2 o]):=by
 refine eV (xns a b o none (fun (p:LA)=>some ((AV.list 1 p):AV))) (by kernel_rfl) ?_;unfold xiV xns;repeat' first|exact eN|exact eS rfl|apply eB
def xvs:LA→Option (Bool×AV):=ocOf (sCons (sList 1 pAny) (sCons (sList 1 pAny) (sCons (sList 2 pAny) sNil))) fun (a,(b,(o,_)))=>((xiV a b o).isSome,(AV.list 1 ((xiV a b o).getD [])))
theorem xEF:OcOk Tryz.prog ITryz 110 (xvs):=xaN fun f h g=>by
 obtain ⟨a,⟨b,⟨o,_⟩⟩⟩:=f
 obtain ⟨c,e⟩:=Prod.mk.inj g
 refine xaH (p:=xki.pin) (xaL mxTryz (inv0Ok Tryz.prog _) rfl xzP Tryz.func110 rfl (by kernel_rfl) xvI ((xEA _ _ _ _ (xab (d:=[]) c)).trans ?_))
 exact congrArg some e
def xED:Env:=xAu.with 110 xvs
theorem xDJ:OrcOk Tryz.prog ITryz xED:=xv9.with xEF
def xoI (R:LA→LA→Option (LA)):LA→Option (Bool×AV):=ocOf (sCons (sList 1 pAny) (sCons (sList 2 pAny) sNil)) fun (l,(o,_))=>((R l o).isSome,AV.list 1 ((R l o).getD []))
def xkY (R:LA→LA→Option (LA)):Env:=(xED.with 86 (xoI R)).fn 34 0 (lsOf []) (lpsOf [])
def xnX (R:LA→LA→Option (LA)):Prop:=OcOk Tryz.prog ITryz 86 (xoI R)
theorem xBe (R:LA→LA→Option (LA)) (a:xnX R):OrcOk Tryz.prog (ITryz.at 0) (xkY R):=(xDJ.with a).fn
theorem xyE (R:LA→LA→Option (LA)):LoOk Tryz.prog (ITryz.at (xkY R).pin) (xkY R) (Tryz.f86.body.getD .skip):=xaq (by kernel_rfl)
def xlj (l:LA):=decide (0≤i64.wrap ((↑l.length:Int).tdiv 2))&&decide (i64.wrap ((↑l.length:Int).tdiv 2)≤(↑l.length:Int))
def xgX (l:LA):Nat:=0+((l.getD 0 .top).cells.getD 0 .top).toList.length
def xk8 (R:LA→LA→Option (LA)) (l o:LA):Option (LA):=R (List.take (l.length - (i64.wrap ((↑l.length:Int).tdiv 2)).toNat) (List.drop (i64.wrap ((↑l.length:Int).tdiv 2)).toNat l)) o
def xkP (R:LA→LA→Option (LA)) (l o:LA):Option (LA):=xiV ((R (List.take ((i64.wrap ((↑l.length:Int).tdiv 2)).toNat - 0) (List.drop 0 l)) o).getD []) ((xk8 R l o).getD []) o
def xgF {T:Type} (R:LA→LA→Option (LA)) (l o:LA) (δ:T) (κ:LA→T):T:=br ((↑l.length:Int)==0) (κ ([])) (br ((↑l.length:Int)==1) (br (decide (0<(↑l.length:Int))) (br (decide (0<l.length)&&hasSh1 (Sh.list 3) ((l.getD 0 .top).cells.getD 0 .top)) (br (decide (xgX l*32≤140737488355328)&&decide (xgX l≤4611686018427387904)) (br (decide (0+xgX l≤([]++((l.getD 0 .top).cells.getD 0 .top).toList).length)&&true&&true&&true) (κ ([AV.list 3 (List.take (xgX l) (List.drop 0 ([]++((l.getD 0 .top).cells.getD 0 .top).toList)))])) δ) δ) δ) δ) (br (xlj l&&true) (br ((R (List.take ((i64.wrap ((↑l.length:Int).tdiv 2)).toNat - 0) (List.drop 0 l)) o).isSome) (br (xlj l) (br ((xk8 R l o).isSome) (br ((xkP R l o).isSome) (κ ((xkP R l o).getD [])) δ) δ) δ) δ) δ))
def xdo (R:LA→LA→Option (LA)) (l o:LA):Option (LA):=xgF R l o none some
theorem xGR (R:LA→LA→Option (LA)) (l o:LA):Enc (fun (p:LA)=>((AV.list 1 p):AV)) (xdo R l o) (XF Tryz.prog (xkY R) Tryz.f86 (Tryz.f86.body.getD .skip) [AV.list 1 l,AV.list 2 o]):=by
 refine eV (xgF R l o none (fun (p:LA)=>some ((AV.list 1 p):AV))) (by kernel_rfl) ?_;unfold xdo xgF;repeat' first|exact eN|exact eS rfl|apply eB
def xGL (R:LA→LA→Option (LA)):LA→Option (Bool×AV):=ocOf (sCons (sList 1 pAny) (sCons (sList 2 pAny) sNil)) fun (l,(o,_))=>((xdo R l o).isSome,(AV.list 1 ((xdo R l o).getD [])))
theorem xGw (R:LA→LA→Option (LA)) (c:xnX R):OcOk Tryz.prog ITryz 86 (xGL R):=xaN fun e g f=>by
 obtain ⟨l,⟨o,_⟩⟩:=e
 obtain ⟨a,b⟩:=Prod.mk.inj f
 refine xaH (p:=(xkY R).pin) (xaL mxTryz (inv0Ok Tryz.prog _) rfl (xBe R c) Tryz.func86 rfl (by kernel_rfl) (xyE R) ((xGR R _ _ _ (xab (d:=[]) a)).trans ?_))
 exact congrArg some b
def xdj:Nat→LA→LA→Option (LA)
 | 0=>fun _ _=>none
 | fu_+1=>fun l o=>xdo (xdj fu_) l o
theorem xtv:∀ n,xnX (xdj n)
 | 0=>xaN fun _ _ h=>absurd (Prod.mk.inj h).1 Bool.false_ne_true
 | fu_+1=>fun a r h=>xGw (xdj fu_) (xtv fu_) a r h
def xE2:Env:=xED.with 86 (xoI (xdj 1000))
theorem xEb:OrcOk Tryz.prog ITryz xE2:=xDJ.with (xtv _)
def xlG:Env:=xE2.fn 5 0 (lsOf []) (lpsOf [])
theorem xCk:OrcOk Tryz.prog (ITryz.at 0) xlG:=xEb.fn
theorem xzL:LoOk Tryz.prog (ITryz.at xlG.pin) xlG (Tryz.f60.body.getD .skip):=xaq (by kernel_rfl)
def xqp {T:Type} (l:LA) (δ:T) (κ:LA→T):T:=br ((xdj 1000 l []).isSome) (κ ((xdj 1000 l []).getD [])) δ
def xil (l:LA):Option (LA):=xqp l none some
theorem xHm (l:LA):Enc (fun (p:LA)=>((AV.list 1 p):AV)) (xil l) (XF Tryz.prog xlG Tryz.f60 (Tryz.f60.body.getD .skip) [AV.list 1 l]):=by
 refine eV (xqp l none (fun (p:LA)=>some ((AV.list 1 p):AV))) (by kernel_rfl) ?_;unfold xil xqp;repeat' first|exact eN|exact eS rfl|apply eB
def xzK:LA→Option (Bool×AV):=ocOf (sCons (sList 1 pAny) sNil) fun (l,_)=>((xil l).isSome,(AV.list 1 ((xil l).getD [])))
theorem xHw:OcOk Tryz.prog ITryz 60 (xzK):=xaN fun c f e=>by
 obtain ⟨l,_⟩:=c
 obtain ⟨a,b⟩:=Prod.mk.inj e
 refine xaH (p:=xlG.pin) (xaL mxTryz (inv0Ok Tryz.prog _) rfl xCk Tryz.func60 rfl (by kernel_rfl) xzL ((xHm _ _ (xab (d:=[]) a)).trans ?_))
 exact congrArg some b
def xAB:Env:=xE2.with 60 xzK
theorem xwj:OrcOk Tryz.prog ITryz xAB:=xEb.with xHw
def xgn:Env:=xAB.fn 38 0 (lsOf []) (lpsOf [])
theorem xwM:OrcOk Tryz.prog (ITryz.at 0) xgn:=xwj.fn
theorem xtc:LoOk Tryz.prog (ITryz.at xgn.pin) xgn (loopAt Tryz.f29 0):=xaq (by kernel_rfl)
def xfx (a:LA) (i:Int):=decide (i.toNat<a.length)&&hasSh1 (Sh.list 3) ((a.getD i.toNat .top).cells.getD 0 .top)
def xf1 (a:LA) (i:Int):=decide (0≤i)&&decide (i<a.length)
def xir (a:LA) (i:Int):=xkr ((a.getD (i64.wrap (i - 1)).toNat .top).cells.getD 0 .top).toList ((a.getD i.toNat .top).cells.getD 0 .top).toList
def xeZ {T:Type} (b:LA) (a:Nat) (i:Int) (c:LA) (δ:T) (κl:(Nat×Int×LA)→T) (κr:(Nat×LA)→T):T:=br (decide (i<b.length)) (br (i==0) (br (xf1 b i) (br (xfx b i) (br (a==c.length&&(decide ((a+1)*24≤140737488355328)&&decide (a+1≤4611686018427387904))) (κl (a+1,i64.wrap (i+1),c++[AV.list 3 ((b.getD i.toNat .top).cells.getD 0 .top).toList])) δ) δ) δ) (br (decide (0≤i64.wrap (i - 1))&&decide (i64.wrap (i - 1)<(↑b.length:Int))) (br (decide ((i64.wrap (i - 1)).toNat<b.length)&&hasSh1 (Sh.list 3) ((b.getD (i64.wrap (i - 1)).toNat .top).cells.getD 0 .top)) (br (xf1 b i) (br (xfx b i) (br ((xir b i).isSome) (br (!(xir b i).getD false) (br (xf1 b i) (br (xfx b i) (br (a==c.length&&(decide ((a+1)*24≤140737488355328)&&decide (a+1≤4611686018427387904))) (κl (a+1,i64.wrap (i+1),c++[AV.list 3 ((b.getD i.toNat .top).cells.getD 0 .top).toList])) δ) δ) δ) (κl (a,i64.wrap (i+1),c))) δ) δ) δ) δ) δ)) (κr (a,c))
def xbr (c:LA):(Nat×Int×LA)→Option ((Nat×Int×LA)⊕(Nat×LA)):=fun (b,i,a)=>xeZ c b i a none (fun s=>some (.inl s)) (fun p=>some (.inr p))
def xe5 (c:LA):(Nat×Int×LA)→LA×List Box:=fun (b,i,a)=>([AV.list 1 c,AV.osl 0 0 0 b,AV.int .i64 i],[⟨0,1,40,a,false,true⟩])
def xd9 (a:LA):(Nat×LA)→LR:=fun p=>(.leaf (.exit 0) [AV.osl 0 0 0 p.1] [⟨0,1,40,p.2,false,true⟩])
abbrev xyp (a:LA) (H:List Box):=XR Tryz.prog xgn [3,4,5] [4] [(4,1,40)] (loopAt Tryz.f29 0) a H
theorem xyK (a:LA) (s:Nat×Int×LA):Enc (encR (xe5 a) (xd9 a)) (xbr a s) (xyp (xe5 a s).1 (xe5 a s).2):=by
 obtain ⟨c,i,b⟩:=s
 refine eV (xeZ a c i b none (fun s=>some (encR (xe5 a) (xd9 a) (.inl s))) (fun p=>some (encR (xe5 a) (xd9 a) (.inr p)))) (by kernel_rfl) ?_;unfold xbr xeZ;repeat' first|exact eN|exact eS rfl|apply eB
def xqq:Lp:=lpOf [3,4,5] [4] [(4,1,40)] (pCons (pList 1 pAny) (pCons (pOsl 0 0 0) (pCons (pInt .i64) pNil))) (pCons (pBox 0 1 40 false true pAny) pNil) fun (c,(b,(i,_))) (a,_)=>((Iter (xbr c) (b,i,a)).isSome,xd9 c ((Iter (xbr c) (b,i,a)).getD (0,[])))
theorem xvK:LoopOk Tryz.prog (ITryz.at xgn.pin) xgn.nt (loopAt Tryz.f29 0) xqq:=xaY fun e f h g=>by
 obtain ⟨a,⟨c,⟨i,_⟩⟩⟩:=e
 obtain ⟨b,_⟩:=f
 obtain ⟨d,rfl⟩:=Prod.mk.inj g
 exact xaG mxTryz (inv0Ok Tryz.prog _) rfl xwM xtc (xe5 a) (xd9 a) (fun p=>by simp only [xd9,LR.eval];first|(simp;done)|(repeat' split<;>simp)) (xyK a) (s:=(c,i,b)) (xab d)
def xij:Env:=xAB.fn 38 0 (lsOf []) (lpsOf [(4,xqq)])
theorem xv6:OrcOk Tryz.prog (ITryz.at 0) xij:=xwj.fn
theorem xu5:LoOk Tryz.prog (ITryz.at xij.pin) xij (Tryz.f29.body.getD .skip):=xaP (ls:=[loopAt Tryz.f29 0]) (by kernel_rfl) (lkC xvK lkN)
def xnO (l:LA):=(Iter (xbr ((xil l).getD [])) (0,0,[])).getD (0,[])
def xnT (l:LA):=(xnO l).snd
def xnU (l:LA):=(xnO l).fst
def xln {T:Type} (l:LA) (δ:T) (κ:LA→T):T:=br ((xil l).isSome) (br ((Iter (xbr ((xil l).getD [])) (0,0,[])).isSome) (br (decide (0+xnU l≤(xnT l).length)&&true) (κ (List.take (xnU l) (List.drop 0 (xnT l)))) δ) δ) δ
def xg5 (l:LA):Option (LA):=xln l none some
theorem xB0 (l:LA):Enc (fun (p:LA)=>((AV.list 1 p):AV)) (xg5 l) (XF Tryz.prog xij Tryz.f29 (Tryz.f29.body.getD .skip) [AV.list 1 l]):=by
 refine eV (xln l none (fun (p:LA)=>some ((AV.list 1 p):AV))) (by kernel_rfl) ?_;unfold xg5 xln;repeat' first|exact eN|exact eS rfl|apply eB
def xti:LA→Option (Bool×AV):=ocOf (sCons (sList 1 pAny) sNil) fun (l,_)=>((xg5 l).isSome,(AV.list 1 ((xg5 l).getD [])))
theorem xCM:OcOk Tryz.prog ITryz 29 (xti):=xaN fun c f e=>by
 obtain ⟨l,_⟩:=c
 obtain ⟨a,b⟩:=Prod.mk.inj e
 refine xaH (p:=xij.pin) (xaL mxTryz (inv0Ok Tryz.prog _) rfl xv6 Tryz.func29 rfl (by kernel_rfl) xu5 ((xB0 _ _ (xab (d:=[]) a)).trans ?_))
 exact congrArg some b
def xAy:Env:=xAB.with 29 xti
theorem xwe:OrcOk Tryz.prog ITryz xAy:=xwj.with xCM
def xji:Env:=xAy.fn 27 0 (lsOf []) (lpsOf [])
theorem xCm:OrcOk Tryz.prog (ITryz.at 0) xji:=xwe.fn
theorem xwp:LoOk Tryz.prog (ITryz.at xji.pin) xji (loopAt Tryz.f74 0):=xaq (by kernel_rfl)
def xjA {T:Type} (l:LA) (a:Nat) (i:Int) (b:LA) (δ:T) (κl:(Nat×Int×LA)→T) (κr:(Nat×LA)→T):T:=br (decide (i<l.length)) (br (decide (0≤i)&&decide (i<l.length)) (br (decide (i.toNat<l.length)&&((l.getD i.toNat .top).cells.length==3&&hasShs [Sh.int .i64,Sh.int .i64] (l.getD i.toNat .top).cells 1)) (br (xhj ((l.getD i.toNat .top).cells.getD 1 .top).toInt ((l.getD i.toNat .top).cells.getD 2 .top).toInt) (br (decide (0≤i)&&decide (i<l.length)) (br (decide (i.toNat<l.length)&&hasSh1 (Sh.list 3) ((l.getD i.toNat .top).cells.getD 0 .top)) (br (a==b.length&&(decide ((a+1)*24≤140737488355328)&&decide (a+1≤4611686018427387904))) (κl (a+1,i64.wrap (i+1),b++[AV.list 3 ((l.getD i.toNat .top).cells.getD 0 .top).toList])) δ) δ) δ) (κl (a,i64.wrap (i+1),b))) δ) δ) (κr (a,b))
def xc5 (l:LA):(Nat×Int×LA)→Option ((Nat×Int×LA)⊕(Nat×LA)):=fun (b,i,a)=>xjA l b i a none (fun s=>some (.inl s)) (fun p=>some (.inr p))
def xhI (l:LA):(Nat×Int×LA)→LA×List Box:=fun (b,i,a)=>([AV.list 3 l,AV.osl 0 0 0 b,AV.int .i64 i],[⟨0,1,40,a,false,true⟩])
def xgq (l:LA):(Nat×LA)→LR:=fun p=>(.leaf (.exit 0) [AV.osl 0 0 0 p.1] [⟨0,1,40,p.2,false,true⟩])
abbrev xDl (a:LA) (H:List Box):=XR Tryz.prog xji [0,3,4] [3] [(3,1,40)] (loopAt Tryz.f74 0) a H
theorem xEj (l:LA) (s:Nat×Int×LA):Enc (encR (xhI l) (xgq l)) (xc5 l s) (xDl (xhI l s).1 (xhI l s).2):=by
 obtain ⟨b,i,a⟩:=s
 refine eV (xjA l b i a none (fun s=>some (encR (xhI l) (xgq l) (.inl s))) (fun p=>some (encR (xhI l) (xgq l) (.inr p)))) (by kernel_rfl) ?_;unfold xc5 xjA;repeat' first|exact eN|exact eS rfl|apply eB
def xtb:Lp:=lpOf [0,3,4] [3] [(3,1,40)] (pCons (pList 3 pAny) (pCons (pOsl 0 0 0) (pCons (pInt .i64) pNil))) (pCons (pBox 0 1 40 false true pAny) pNil) fun (l,(b,(i,_))) (a,_)=>((Iter (xc5 l) (b,i,a)).isSome,xgq l ((Iter (xc5 l) (b,i,a)).getD (0,[])))
theorem xA1:LoopOk Tryz.prog (ITryz.at xji.pin) xji.nt (loopAt Tryz.f74 0) xtb:=xaY fun d e g f=>by
 obtain ⟨l,⟨b,⟨i,_⟩⟩⟩:=d
 obtain ⟨a,_⟩:=e
 obtain ⟨c,rfl⟩:=Prod.mk.inj f
 exact xaG mxTryz (inv0Ok Tryz.prog _) rfl xCm xwp (xhI l) (xgq l) (fun p=>by simp only [xgq,LR.eval];first|(simp;done)|(repeat' split<;>simp)) (xEj l) (s:=(b,i,a)) (xab c)
def xlC:Env:=xAy.fn 27 0 (lsOf []) (lpsOf [(3,xtb)])
theorem xCr:OrcOk Tryz.prog (ITryz.at 0) xlC:=xwe.fn
theorem xzB:LoOk Tryz.prog (ITryz.at xlC.pin) xlC (Tryz.f74.body.getD .skip):=xaP (ls:=[loopAt Tryz.f74 0]) (by kernel_rfl) (lkC xA1 lkN)
def xsa (l:LA):=(Iter (xc5 l) (0,0,[])).getD (0,[])
def xsh (l:LA):=(xsa l).fst
def xsb (l:LA):=(xsa l).snd
def xsc (l:LA):=xg5 (List.take (xsh l) (List.drop 0 (xsb l)))
def xp2 {T:Type} (l:LA) (δ:T) (κ:LA→T):T:=br ((Iter (xc5 l) (0,0,[])).isSome) (br (decide (0+xsh l≤(xsb l).length)&&true) (br ((xsc l).isSome) (κ ((xsc l).getD [])) δ) δ) δ
def xke (l:LA):Option (LA):=xp2 l none some
theorem xH8 (l:LA):Enc (fun (p:LA)=>((AV.list 1 p):AV)) (xke l) (XF Tryz.prog xlC Tryz.f74 (Tryz.f74.body.getD .skip) [AV.list 3 l]):=by
 refine eV (xp2 l none (fun (p:LA)=>some ((AV.list 1 p):AV))) (by kernel_rfl) ?_;unfold xke xp2;repeat' first|exact eN|exact eS rfl|apply eB
def xzv:LA→Option (Bool×AV):=ocOf (sCons (sList 3 pAny) sNil) fun (l,_)=>((xke l).isSome,(AV.list 1 ((xke l).getD [])))
theorem xIu:OcOk Tryz.prog ITryz 74 (xzv):=xaN fun c f e=>by
 obtain ⟨l,_⟩:=c
 obtain ⟨a,b⟩:=Prod.mk.inj e
 refine xaH (p:=xlC.pin) (xaL mxTryz (inv0Ok Tryz.prog _) rfl xCr Tryz.func74 rfl (by kernel_rfl) xzB ((xH8 _ _ (xab (d:=[]) a)).trans ?_))
 exact congrArg some b
def xJR:Env:=xAy.with 74 xzv
theorem xKg:OrcOk Tryz.prog ITryz xJR:=xwe.with xIu
abbrev EKR1:Env:=xJR
theorem xJA:OrcOk Tryz.prog ITryz EKR1:=xKg
end Go.Sim.M
end
noncomputable section
set_option maxRecDepth 100000
namespace Go.Sim.M
open Go.IntKind (i64 u64 u8)
open Go.RowKit Go.Proofs
def xlF:Env:=EKR1.fn 51 1 (lsOf []) (lpsOf [])
theorem xB5:OrcOk Tryz.prog (ITryz.at 1) xlF:=xJA.fn
theorem xAb:LoOk Tryz.prog (ITryz.at xlF.pin) xlF (Tryz.f78.body.getD .skip):=xaq (by kernel_rfl)
def xfB (k:Nat) (a:LA):=(List.take ((i64.wrap ((↑k:Int) - 1)).toNat - 0) (List.drop 0 a)).length
def xos (k:Nat) (a:LA):=decide (0+(i64.wrap ((↑k:Int) - 1)).toNat<a.length)
def xlD (k:Nat) (a:LA):=((a.getD (0+(i64.wrap ((↑k:Int) - 1)).toNat) .top).cells.getD 1 .top).toInt
def xok (k:Nat):=decide (0≤i64.wrap ((↑k:Int) - 1))
def xlz (k:Nat):=xok k&&decide (i64.wrap ((↑k:Int) - 1)<(↑k:Int))
def xoh (k:Nat) (a:LA):=xos k a&&hasSh1 (Sh.int .i64) ((a.getD (0+(i64.wrap ((↑k:Int) - 1)).toNat) .top).cells.getD 1 .top)
def xmW {T:Type} (k:Nat) (b c:Int) (a:LA) (δ:T) (κ:Bool×(Nat×LA×LA)×(Nat×LA)→T):T:=br (decide ((↑k:Int)>0)) (br (xlz k) (br (xoh k a) (br (decide (xlD k a≥b)) (br (xok k&&decide (i64.wrap ((↑k:Int) - 1)≤(↑k:Int))&&true) (br (decide (0+((i64.wrap ((↑k:Int) - 1)).toNat - 0)≤a.length)&&(decide (xfB k a*16≤140737488355328)&&decide (xfB k a≤4611686018427387904))) (br (xlz k) (br (xos k a&&hasSh1 (Sh.int .i64) ((a.getD (0+(i64.wrap ((↑k:Int) - 1)).toNat) .top).cells.getD 0 .top)) (br (xlz k) (br (xoh k a) (br (xfB k a==xfB k a&&(decide ((xfB k a+1)*16≤140737488355328)&&decide (xfB k a+1≤4611686018427387904))) (κ (true,(xfB k a+1,a,List.take ((i64.wrap ((↑k:Int) - 1)).toNat - 0) (List.drop 0 a)++[AV.agg [AV.int .i64 ((a.getD (0+(i64.wrap ((↑k:Int) - 1)).toNat) .top).cells.getD 0 .top).toInt,AV.int .i64 (if c>xlD k a then c else xlD k a)]]),(0,[]))) δ) δ) δ) δ) δ) δ) δ) (br (k==a.length&&(decide ((k+1)*16≤140737488355328)&&decide (k+1≤4611686018427387904))) (κ (false,(0,[],[]),(k+1,a++[AV.agg [AV.int .i64 b,AV.int .i64 c]]))) δ)) δ) δ) (br (k==a.length&&(decide ((k+1)*16≤140737488355328)&&decide (k+1≤4611686018427387904))) (κ (false,(0,[],[]),(k+1,a++[AV.agg [AV.int .i64 b,AV.int .i64 c]]))) δ)
def xdh (k:Nat) (a b:Int) (c:LA):Option (Bool×(Nat×LA×LA)×(Nat×LA)):=xmW k a b c none some
theorem xIA (k:Nat) (a b:Int) (xs:LA):Enc (fun (p:Bool×(Nat×LA×LA)×(Nat×LA))=>((br p.1 ((AV.osl 1 0 0 p.2.1.1,([⟨0,2,31,p.2.1.2.1,false,true⟩,⟨0,2,31,p.2.1.2.2,false,true⟩]:List Box))) ((AV.osl 0 1 0 p.2.2.1,([⟨1,2,31,p.2.2.2,false,true⟩]:List Box)))):(AV×List Box))) (xdh k a b xs) (XFM Tryz.prog xlF Tryz.f78 (Tryz.f78.body.getD .skip) [AV.osl (0:Id) 0 0 k,AV.agg [AV.int .i64 a,AV.int .i64 b]] [{ ver:=0,sz:=2,ty:=(31:TypeId),xs:=xs,frz:=false,pm:=true }]):=by
 refine eV (xmW k a b xs none (fun (p:Bool×(Nat×LA×LA)×(Nat×LA))=>some ((br p.1 ((AV.osl 1 0 0 p.2.1.1,([⟨0,2,31,p.2.1.2.1,false,true⟩,⟨0,2,31,p.2.1.2.2,false,true⟩]:List Box))) ((AV.osl 0 1 0 p.2.2.1,([⟨1,2,31,p.2.2.2,false,true⟩]:List Box)))):(AV×List Box)))) (by kernel_rfl) ?_;unfold xdh xmW;repeat' first|exact eN|exact eS rfl|apply eB
def xz0:LA→List Box→Option (Bool×AV×List Box):=omOf (sCons (sEq (pOsl 0 0 0)) (sCons (sAgg (sCons (sEq (pInt .i64)) (sCons (sEq (pInt .i64)) sNil))) sNil)) (pCons (pBox 0 2 (31:TypeId) false true pAny) pNil) fun (k,((a,(b,_)),_)) (c,_)=>((xdh k a b c).isSome,(AV.osl 1 0 0 (br ((xdh k a b c).getD (false,(0,[],[]),(0,[]))).1 ((xdh k a b c).getD (false,(0,[],[]),(0,[]))).2.1.1 ((xdh k a b c).getD (false,(0,[],[]),(0,[]))).2.2.1),
 ([⟨2,2,31,[],false,true⟩,⟨0,2,31,br ((xdh k a b c).getD (false,(0,[],[]),(0,[]))).1 ((xdh k a b c).getD (false,(0,[],[]),(0,[]))).2.1.2.2 ((xdh k a b c).getD (false,(0,[],[]),(0,[]))).2.2.2,false,true⟩]:List Box)))
theorem xHJ:OmOk Tryz.prog ITryz 78 (xz0):=xfP fun e f j h g=>by
 obtain ⟨k,⟨⟨c,⟨i,_⟩⟩,_⟩⟩:=e
 obtain ⟨l,_⟩:=f
 obtain ⟨b,a⟩:=Prod.mk.inj g
 have hx:=xIA _ _ _ _ _ (xab (d:=(false,(0,[],[]),(0,[]))) b)
 revert hx a
 generalize ((xdh _ _ _ _).getD (false,(0,[],[]),(0,[])))=p
 intro a hx
 obtain ⟨rfl,rfl⟩:=Prod.mk.inj a
 obtain ⟨t,⟨m,n,o⟩,q,r⟩:=p
 have hg:GoodM Tryz.prog ITryz 78 _ _ _ _:=xdq (p:=xlF.pin) (xdV mxTryz (inv0Ok Tryz.prog _) rfl xB5 rfl Tryz.func78 rfl (by kernel_rfl) xAb hx)
 cases t
 · exact GoodM.move0 rfl (by decide) hg
 · exact GoodM.drop0 rfl (by decide) hg
def xOw:Env:=EKR1.withM 78 xz0
theorem xNY:OrcOk Tryz.prog ITryz xOw:=xJA.withM xHJ
abbrev EKJ:Env:=xOw
theorem xDE:OrcOk Tryz.prog ITryz EKJ:=xNY
end Go.Sim.M
end
noncomputable section
set_option maxRecDepth 100000
namespace Go.Sim.M
open Go.IntKind (i64 u64 u8)
open Go.RowKit Go.Proofs
def xhy:Env:=EKJ.fn 58 0 (lsOf []) (lpsOf [])
theorem xzE:OrcOk Tryz.prog (ITryz.at 0) xhy:=xDE.fn
theorem xuk:LoOk Tryz.prog (ITryz.at xhy.pin) xhy (loopAt Tryz.f57 0):=xaq (by kernel_rfl)
def xgs {T:Type} (l:LA) (n:Int) (a:Nat) (i:Int) (b:LA) (δ:T) (κl:(Nat×Int×LA)→T) (κr:(Nat×Int×LA)→T):T:=br (decide (i<l.length)) (br (decide (0≤i)&&decide (i<l.length)) (br (decide (i.toNat<l.length)&&hasSh1 (Sh.int .i64) ((l.getD i.toNat .top).cells.getD 0 .top)) (br (decide (((l.getD i.toNat .top).cells.getD 0 .top).toInt<n)) (br (decide (0≤i)&&decide (i<l.length)) (br (decide (i.toNat<l.length)&&hasSh1 (Sh.int .i64) ((l.getD i.toNat .top).cells.getD 0 .top)) (br (a==b.length&&(decide ((a+1)*8≤140737488355328)&&decide (a+1≤4611686018427387904))) (κl (a+1,i64.wrap (i+1),b++[AV.int .i64 ((l.getD i.toNat .top).cells.getD 0 .top).toInt])) δ) δ) δ) (κr (a,i,b))) δ) δ) (κr (a,i,b))
def xbQ (l:LA) (n:Int):(Nat×Int×LA)→Option ((Nat×Int×LA)⊕(Nat×Int×LA)):=fun (b,i,a)=>xgs l n b i a none (fun s=>some (.inl s)) (fun p=>some (.inr p))
def xgf (l:LA) (n:Int):(Nat×Int×LA)→LA×List Box:=fun (b,i,a)=>([AV.list 1 l,AV.int .i64 n,AV.osl 0 0 0 b,AV.int .i64 i],[⟨0,1,3,a,false,true⟩])
def xfi (l:LA) (n:Int):(Nat×Int×LA)→LR:=fun p=>(.leaf (.exit 0) [AV.list 1 l,AV.int .i64 n,AV.osl 0 0 0 p.1,AV.int .i64 p.2.1] [⟨0,1,3,p.2.2,false,true⟩])
abbrev xBn (a:LA) (H:List Box):=XR Tryz.prog xhy [0,1,5,6] [0,1,5,6] [(5,1,3)] (loopAt Tryz.f57 0) a H
theorem xAQ (l:LA) (n:Int) (s:Nat×Int×LA):Enc (encR (xgf l n) (xfi l n)) (xbQ l n s) (xBn (xgf l n s).1 (xgf l n s).2):=by
 obtain ⟨b,i,a⟩:=s
 refine eV (xgs l n b i a none (fun s=>some (encR (xgf l n) (xfi l n) (.inl s))) (fun p=>some (encR (xgf l n) (xfi l n) (.inr p)))) (by kernel_rfl) ?_;unfold xbQ xgs;repeat' first|exact eN|exact eS rfl|apply eB
def xmH:Lp:=lpOf [0,1,5,6] [0,1,5,6] [(5,1,3)] (pCons (pList 1 pAny) (pCons (pInt .i64) (pCons (pOsl 0 0 0) (pCons (pInt .i64) pNil)))) (pCons (pBox 0 1 3 false true pAny) pNil) fun (l,(n,(b,(i,_)))) (a,_)=>((Iter (xbQ l n) (b,i,a)).isSome,xfi l n ((Iter (xbQ l n) (b,i,a)).getD (0,0,[])))
theorem xyC:LoopOk Tryz.prog (ITryz.at xhy.pin) xhy.nt (loopAt Tryz.f57 0) xmH:=xaY fun d e g f=>by
 obtain ⟨l,⟨n,⟨b,⟨i,_⟩⟩⟩⟩:=d
 obtain ⟨a,_⟩:=e
 obtain ⟨c,rfl⟩:=Prod.mk.inj f
 exact xaG mxTryz (inv0Ok Tryz.prog _) rfl xzE xuk (xgf l n) (xfi l n) (fun p=>by simp only [xfi,LR.eval];first|(simp;done)|(repeat' split<;>simp)) (xAQ l n) (s:=(b,i,a)) (xab c)
def xhW:Env:=EKJ.fn 58 0 (lsOf []) (lpsOf [(3,xmH)])
theorem xy8:OrcOk Tryz.prog (ITryz.at 0) xhW:=xDE.fn
theorem xus:LoOk Tryz.prog (ITryz.at xhW.pin) xhW (loopAt Tryz.f57 1):=xaq (by kernel_rfl)
def xig {T:Type} (l:LA) (a:Nat) (i:Int) (b:LA) (δ:T) (κl:(Nat×Int×LA)→T) (κr:(Nat×LA)→T):T:=br (decide (i<l.length)) (br (decide (0≤i)&&decide (i<l.length)) (br (decide (i.toNat<l.length)&&hasSh1 (Sh.int .i64) ((l.getD i.toNat .top).cells.getD 0 .top)) (br (a==b.length&&(decide ((a+1)*8≤140737488355328)&&decide (a+1≤4611686018427387904))) (κl (a+1,i64.wrap (i+1),b++[AV.int .i64 ((l.getD i.toNat .top).cells.getD 0 .top).toInt])) δ) δ) δ) (κr (a,b))
def xbN (l:LA):(Nat×Int×LA)→Option ((Nat×Int×LA)⊕(Nat×LA)):=fun (b,i,a)=>xig l b i a none (fun s=>some (.inl s)) (fun p=>some (.inr p))
def xgr (l:LA):(Nat×Int×LA)→LA×List Box:=fun (b,i,a)=>([AV.list 1 l,AV.osl 0 0 0 b,AV.int .i64 i],[⟨0,1,3,a,false,true⟩])
def xff (l:LA):(Nat×LA)→LR:=fun p=>(.leaf (.exit 2) [AV.osl 0 0 0 p.1] [⟨0,1,3,p.2,false,true⟩])
abbrev xBk (a:LA) (H:List Box):=XR Tryz.prog xhW [0,5,6] [5] [(5,1,3)] (loopAt Tryz.f57 1) a H
theorem xAP (l:LA) (s:Nat×Int×LA):Enc (encR (xgr l) (xff l)) (xbN l s) (xBk (xgr l s).1 (xgr l s).2):=by
 obtain ⟨b,i,a⟩:=s
 refine eV (xig l b i a none (fun s=>some (encR (xgr l) (xff l) (.inl s))) (fun p=>some (encR (xgr l) (xff l) (.inr p)))) (by kernel_rfl) ?_;unfold xbN xig;repeat' first|exact eN|exact eS rfl|apply eB
def xr1:Lp:=lpOf [0,5,6] [5] [(5,1,3)] (pCons (pList 1 pAny) (pCons (pOsl 0 0 0) (pCons (pInt .i64) pNil))) (pCons (pBox 0 1 3 false true pAny) pNil) fun (l,(b,(i,_))) (a,_)=>((Iter (xbN l) (b,i,a)).isSome,xff l ((Iter (xbN l) (b,i,a)).getD (0,[])))
theorem xyv:LoopOk Tryz.prog (ITryz.at xhW.pin) xhW.nt (loopAt Tryz.f57 1) xr1:=xaY fun d e g f=>by
 obtain ⟨l,⟨b,⟨i,_⟩⟩⟩:=d
 obtain ⟨a,_⟩:=e
 obtain ⟨c,rfl⟩:=Prod.mk.inj f
 exact xaG mxTryz (inv0Ok Tryz.prog _) rfl xy8 xus (xgr l) (xff l) (fun p=>by simp only [xff,LR.eval];first|(simp;done)|(repeat' split<;>simp)) (xAP l) (s:=(b,i,a)) (xab c)
def xjx:Env:=EKJ.fn 58 0 (lsOf []) (lpsOf [(3,xmH),(8,xr1)])
theorem xy2:OrcOk Tryz.prog (ITryz.at 0) xjx:=xDE.fn
theorem xwr:LoOk Tryz.prog (ITryz.at xjx.pin) xjx (Tryz.f57.body.getD .skip):=xaP (ls:=[loopAt Tryz.f57 0,loopAt Tryz.f57 1]) (by kernel_rfl) (lkC xyC (lkC xyv lkN))
def xiR (l:LA) (n:Int):=(Iter (xbQ l n) (0,0,[])).getD (0,0,[])
def xg8 (l:LA) (n:Int):=(xiR l n).fst
def xiT (l:LA) (n:Int):=(xiR l n).snd
def xcZ (l:LA) (n:Int):=(xiT l n).fst
def xej (l:LA) (n:Int):=xg8 l n+1
def xgZ (l:LA) (n:Int):=(xiT l n).snd
def xjC (l:LA) (n:Int):=Iter (xbN l) (xej l n,xcZ l n,xgZ l n++[AV.int .i64 n])
def xj5 (l:LA) (n:Int):=Iter (xbN l) (xg8 l n,xcZ l n,xgZ l n)
def xiQ (l:LA) (n:Int):=xg8 l n==(xgZ l n).length
def xjZ (l:LA) (n:Int):=(xjC l n).getD (0,[])
def xjQ (l:LA) (n:Int):=(xjC l n).isSome
def xj6 (l:LA) (n:Int):=(xj5 l n).getD (0,[])
def xfX (l:LA) (n:Int):=(xjZ l n).fst
def xgd (l:LA) (n:Int):=(xjZ l n).snd
def xjX (l:LA) (n:Int):=(xj6 l n).fst
def xka (l:LA) (n:Int):=(xj6 l n).snd
def xnL {T:Type} (l:LA) (n:Int) (δ:T) (κ:LA→T):T:=br ((Iter (xbQ l n) (0,0,[])).isSome) (br (xcZ l n==(↑l.length:Int)) (br (xiQ l n&&(decide (xej l n*8≤140737488355328)&&decide (xej l n≤4611686018427387904))) (br (xjQ l n) (br (decide (0+xfX l n≤(xgd l n).length)&&true) (κ (List.take (xfX l n) (List.drop 0 (xgd l n)))) δ) δ) δ) (br (decide (0≤xcZ l n)&&decide (xcZ l n<l.length)) (br (decide ((xcZ l n).toNat<l.length)&&hasSh1 (Sh.int .i64) ((l.getD (xcZ l n).toNat .top).cells.getD 0 .top)) (br (decide (((l.getD (xcZ l n).toNat .top).cells.getD 0 .top).toInt>n)) (br (xiQ l n&&(decide (xej l n*8≤140737488355328)&&decide (xej l n≤4611686018427387904))) (br (xjQ l n) (br (decide (0+xfX l n≤(xgd l n).length)&&true) (κ (List.take (xfX l n) (List.drop 0 (xgd l n)))) δ) δ) δ) (br ((xj5 l n).isSome) (br (decide (0+xjX l n≤(xka l n).length)&&true) (κ (List.take (xjX l n) (List.drop 0 (xka l n)))) δ) δ)) δ) δ)) δ
def xeg (l:LA) (n:Int):Option (LA):=xnL l n none some
theorem xER (l:LA) (n:Int):Enc (fun (p:LA)=>((AV.list 1 p):AV)) (xeg l n) (XF Tryz.prog xjx Tryz.f57 (Tryz.f57.body.getD .skip) [AV.list 1 l,AV.int .i64 n]):=by
 refine eV (xnL l n none (fun (p:LA)=>some ((AV.list 1 p):AV))) (by kernel_rfl) ?_;unfold xeg xnL;repeat' first|exact eN|exact eS rfl|apply eB
def xve:LA→Option (Bool×AV):=ocOf (sCons (sList 1 pAny) (sCons (sEq (pInt .i64)) sNil)) fun (l,(n,_))=>((xeg l n).isSome,(AV.list 1 ((xeg l n).getD [])))
theorem xEv:OcOk Tryz.prog ITryz 57 (xve):=xaN fun c f e=>by
 obtain ⟨l,⟨n,_⟩⟩:=c
 obtain ⟨a,b⟩:=Prod.mk.inj e
 refine xaH (p:=xjx.pin) (xaL mxTryz (inv0Ok Tryz.prog _) rfl xy2 Tryz.func57 rfl (by kernel_rfl) xwr ((xER _ _ _ (xab (d:=[]) a)).trans ?_))
 exact congrArg some b
def xMv:Env:=EKJ.with 57 xve
theorem xMX:OrcOk Tryz.prog ITryz xMv:=xDE.with xEv
abbrev xIw:Env:=xMv
theorem xGm:OrcOk Tryz.prog ITryz xIw:=xMX
def xm1:Env:=xIw.fn 28 1 (lsOf []) (lpsOf [])
theorem xDf:OrcOk Tryz.prog (ITryz.at 1) xm1:=xGm.fn
theorem xAH:LoOk Tryz.prog (ITryz.at xm1.pin) xm1 (Tryz.f90.body.getD .skip):=xaq (by kernel_rfl)
def xlO {T:Type} (k:Nat) (b n:Int) (a:LA) (δ:T) (κ:Bool×(Nat×LA)×(Nat×LA)→T):T:=br (decide ((↑k:Int)>0)) (br (decide (0≤i64.wrap ((↑k:Int) - 1))&&decide (i64.wrap ((↑k:Int) - 1)<(↑k:Int))) (br (decide (0+(i64.wrap ((↑k:Int) - 1)).toNat<a.length)&&hasSh1 (Sh.int .i64) ((a.getD (0+(i64.wrap ((↑k:Int) - 1)).toNat) .top).cells.getD 1 .top)) (br (((a.getD (0+(i64.wrap ((↑k:Int) - 1)).toNat) .top).cells.getD 1 .top).toInt==n) (κ (true,(k,a),(0,[]))) (br (k==a.length&&(decide ((k+1)*16≤140737488355328)&&decide (k+1≤4611686018427387904))) (κ (false,(0,[]),(k+1,a++[AV.agg [AV.int .i64 b,AV.int .i64 n]]))) δ)) δ) δ) (br (k==a.length&&(decide ((k+1)*16≤140737488355328)&&decide (k+1≤4611686018427387904))) (κ (false,(0,[]),(k+1,a++[AV.agg [AV.int .i64 b,AV.int .i64 n]]))) δ)
def xeh (k:Nat) (a n:Int) (b:LA):Option (Bool×(Nat×LA)×(Nat×LA)):=xlO k a n b none some
theorem xIY (k:Nat) (a n:Int) (xs:LA):Enc (fun (p:Bool×(Nat×LA)×(Nat×LA))=>((br p.1 ((AV.osl 0 0 0 p.2.1.1,([⟨0,2,75,p.2.1.2,false,true⟩]:List Box))) ((AV.osl 0 1 0 p.2.2.1,([⟨1,2,75,p.2.2.2,false,true⟩]:List Box)))):(AV×List Box))) (xeh k a n xs) (XFM Tryz.prog xm1 Tryz.f90 (Tryz.f90.body.getD .skip) [AV.osl (0:Id) 0 0 k,AV.int .i64 a,AV.int .i64 n] [{ ver:=0,sz:=2,ty:=(75:TypeId),xs:=xs,frz:=false,pm:=true }]):=by
 refine eV (xlO k a n xs none (fun (p:Bool×(Nat×LA)×(Nat×LA))=>some ((br p.1 ((AV.osl 0 0 0 p.2.1.1,([⟨0,2,75,p.2.1.2,false,true⟩]:List Box))) ((AV.osl 0 1 0 p.2.2.1,([⟨1,2,75,p.2.2.2,false,true⟩]:List Box)))):(AV×List Box)))) (by kernel_rfl) ?_;unfold xeh xlO;repeat' first|exact eN|exact eS rfl|apply eB
def xBy:LA→List Box→Option (Bool×AV×List Box):=omOf (sCons (sEq (pOsl 0 0 0)) (sCons (sEq (pInt .i64)) (sCons (sEq (pInt .i64)) sNil))) (pCons (pBox 0 2 (75:TypeId) false true pAny) pNil) fun (k,(a,(n,_))) (b,_)=>((xeh k a n b).isSome,(AV.osl 0 1 0 (br ((xeh k a n b).getD (false,(0,[]),(0,[]))).1 ((xeh k a n b).getD (false,(0,[]),(0,[]))).2.1.1 ((xeh k a n b).getD (false,(0,[]),(0,[]))).2.2.1),([⟨1,2,75,(br ((xeh k a n b).getD (false,(0,[]),(0,[]))).1 ((xeh k a n b).getD (false,(0,[]),(0,[]))).2.1.2 ((xeh k a n b).getD (false,(0,[]),(0,[]))).2.2.2),false,true⟩]:List Box)))
theorem xIS:OmOk Tryz.prog ITryz 90 (xBy):=xfP fun e f j i g=>by
 obtain ⟨k,⟨b,⟨n,_⟩⟩⟩:=e
 obtain ⟨h,_⟩:=f
 obtain ⟨c,a⟩:=Prod.mk.inj g
 have hx:=xIY _ _ _ _ _ (xab (d:=(false,(0,[]),(0,[]))) c)
 revert hx a
 generalize ((xeh k b n h).getD (false,(0,[]),(0,[])))=p
 intro a hx
 obtain ⟨rfl,rfl⟩:=Prod.mk.inj a
 obtain ⟨t,⟨l,m⟩,o,q⟩:=p
 have hg:GoodM Tryz.prog ITryz 90 _ _ _ _:=xdq (p:=xm1.pin) (xdV mxTryz (inv0Ok Tryz.prog _) rfl xDf rfl Tryz.func90 rfl (by kernel_rfl) xAH hx)
 cases t
 · exact hg
 · exact GoodM.bump1 rfl (by decide) hg
def xvo:Env:=xIw.withM 90 xBy
theorem xrN:OrcOk Tryz.prog ITryz xvo:=xGm.withM xIS
def xlN:Env:=xvo.fn 82 0 (lsOf []) (lpsOf [])
theorem xFr:OrcOk Tryz.prog (ITryz.at 0) xlN:=xrN.fn
theorem xzz:LoOk Tryz.prog (ITryz.at xlN.pin) xlN (loopAt Tryz.f66 0):=xaq (by kernel_rfl)
def xk7 (l:LA) (i:Int):=decide (0≤i)&&decide (i<l.length)
def xlJ {T:Type} (l a:LA) (i:Int) (δ:T) (κl:(LA×Int)→T) (κr:(LA)→T):T:=br (decide (i<l.length)) (br (xk7 l i) (br (decide (i.toNat<l.length)&&((l.getD i.toNat .top).cells.length==3&&hasShs [Sh.int .i64,Sh.int .i64] (l.getD i.toNat .top).cells 0)) (br (xhj ((l.getD i.toNat .top).cells.getD 0 .top).toInt ((l.getD i.toNat .top).cells.getD 1 .top).toInt) (br (xk7 l i) (br (decide (i.toNat<l.length)&&hasSh1 (Sh.int .i64) ((l.getD i.toNat .top).cells.getD 0 .top)) (br ((xeg a ((l.getD i.toNat .top).cells.getD 0 .top).toInt).isSome) (br (xk7 l i) (br (decide (i.toNat<l.length)&&hasSh1 (Sh.int .i64) ((l.getD i.toNat .top).cells.getD 1 .top)) (br ((xeg ((xeg a ((l.getD i.toNat .top).cells.getD 0 .top).toInt).getD []) ((l.getD i.toNat .top).cells.getD 1 .top).toInt).isSome) (κl ((xeg ((xeg a ((l.getD i.toNat .top).cells.getD 0 .top).toInt).getD []) ((l.getD i.toNat .top).cells.getD 1 .top).toInt).getD [],i64.wrap (i+1))) δ) δ) δ) δ) δ) δ) (κl (a,i64.wrap (i+1)))) δ) δ) (κr (a))
def xdC (l:LA):(LA×Int)→Option ((LA×Int)⊕(LA)):=fun (a,i)=>xlJ l a i none (fun s=>some (.inl s)) (fun p=>some (.inr p))
def xjr (l:LA):(LA×Int)→LA×List Box:=fun (a,i)=>([AV.list 3 l,AV.list 1 a,AV.int .i64 i],[])
def xhM (l:LA):(LA)→LR:=fun p=>(.leaf (.exit 0) [AV.list 3 l,AV.list 1 p] [])
abbrev xGs (a:LA) (H:List Box):=XR Tryz.prog xlN [0,3,4] [0,3] [(3,1,1073741824)] (loopAt Tryz.f66 0) a H
theorem xGJ (l:LA) (s:LA×Int):Enc (encR (xjr l) (xhM l)) (xdC l s) (xGs (xjr l s).1 (xjr l s).2):=by
 obtain ⟨a,i⟩:=s
 refine eV (xlJ l a i none (fun s=>some (encR (xjr l) (xhM l) (.inl s))) (fun p=>some (encR (xjr l) (xhM l) (.inr p)))) (by kernel_rfl) ?_;unfold xdC xlJ;repeat' first|exact eN|exact eS rfl|apply eB
def xnG:Lp:=lpOf [0,3,4] [0,3] [(3,1,1073741824)] (pCons (pList 3 pAny) (pCons (pList 1 pAny) (pCons (pInt .i64) pNil))) pNil fun (l,(a,(i,_))) _=>((Iter (xdC l) (a,i)).isSome,xhM l ((Iter (xdC l) (a,i)).getD []))
theorem xDp:LoopOk Tryz.prog (ITryz.at xlN.pin) xlN.nt (loopAt Tryz.f66 0) xnG:=xaY fun b e f c=>by
 obtain ⟨l,⟨d,⟨i,_⟩⟩⟩:=b
 obtain ⟨a,rfl⟩:=Prod.mk.inj c
 exact xaG mxTryz (inv0Ok Tryz.prog _) rfl xFr xzz (xjr l) (xhM l) (fun p=>by simp only [xhM,LR.eval];first|(simp;done)|(repeat' split<;>simp)) (xGJ l) (s:=(d,i)) (xab a)
def xlS:Env:=xvo.fn 82 0 (lsOf []) (lpsOf [(3,xnG)])
theorem xEz:OrcOk Tryz.prog (ITryz.at 0) xlS:=xrN.fn
theorem xyL:LoOk Tryz.prog (ITryz.at xlS.pin) xlS (loopAt Tryz.f66 2):=xaq (by kernel_rfl)
def xly {T:Type} (l b:LA) (c:Nat) (k n i:Int) (a:LA) (δ:T) (κl:(Int×Int×LA)→T) (κr:(Int×LA)→T):T:=br (decide (i<l.length)) (br (decide (0≤i)&&decide (i<l.length)) (br (decide (i.toNat<l.length)&&((l.getD i.toNat .top).cells.length==3&&hasShs [Sh.int .i64,Sh.int .i64] (l.getD i.toNat .top).cells 0)) (br (decide (0≤k)&&decide (k<b.length)) (br (decide (k.toNat<b.length)&&hasSh1 (Sh.int .i64) ((b.getD k.toNat .top).cells.getD 0 .top)) (br (xiN ((l.getD i.toNat .top).cells.getD 0 .top).toInt ((l.getD i.toNat .top).cells.getD 1 .top).toInt ((b.getD k.toNat .top).cells.getD 0 .top).toInt) (br (decide (0≤i)&&decide (i<l.length)) (br (decide (i.toNat<l.length)&&hasSh1 (Sh.int .i64) ((l.getD i.toNat .top).cells.getD 2 .top)) (κl (i64.wrap (n+((l.getD i.toNat .top).cells.getD 2 .top).toInt),i64.wrap (i+1),a)) δ) δ) (κl (n,i64.wrap (i+1),a))) δ) δ) δ) δ) (κr (n,a))
def xdB (l c:LA) (b:Nat) (k:Int):(Int×Int×LA)→Option ((Int×Int×LA)⊕(Int×LA)):=fun (n,i,a)=>xly l c b k n i a none (fun s=>some (.inl s)) (fun p=>some (.inr p))
def xjq (l c:LA) (b:Nat) (k:Int):(Int×Int×LA)→LA×List Box:=fun (n,i,a)=>([AV.list 3 l,AV.list 1 c,AV.osl 0 0 0 b,AV.int .i64 k,AV.int .i64 n,AV.int .i64 i],[⟨0,2,75,a,false,true⟩])
def xhF (l b:LA) (a:Nat) (k:Int):(Int×LA)→LR:=fun p=>(.leaf (.exit 4) [AV.list 3 l,AV.list 1 b,AV.osl 0 0 0 a,AV.int .i64 k,AV.int .i64 p.1] [⟨0,2,75,p.2,false,true⟩])
abbrev xGW (a:LA) (H:List Box):=XR Tryz.prog xlS [0,3,5,6,7,8] [0,3,5,6,7] [(5,2,75),(3,1,1073741824)] (loopAt Tryz.f66 2) a H
theorem xGF (l b:LA) (a:Nat) (k:Int) (s:Int×Int×LA):Enc (encR (xjq l b a k) (xhF l b a k)) (xdB l b a k s) (xGW (xjq l b a k s).1 (xjq l b a k s).2):=by
 obtain ⟨n,i,c⟩:=s
 refine eV (xly l b a k n i c none (fun s=>some (encR (xjq l b a k) (xhF l b a k) (.inl s))) (fun p=>some (encR (xjq l b a k) (xhF l b a k) (.inr p)))) (by kernel_rfl) ?_;unfold xdB xly;repeat' first|exact eN|exact eS rfl|apply eB
def xq5:Lp:=lpOf [0,3,5,6,7,8] [0,3,5,6,7] [(5,2,75),(3,1,1073741824)] (pCons (pList 3 pAny) (pCons (pList 1 pAny) (pCons (pOsl 0 0 0) (pCons (pInt .i64) (pCons (pInt .i64) (pCons (pInt .i64) pNil)))))) (pCons (pBox 0 2 75 false true pAny) pNil) fun (l,(c,(a,(k,(n,(i,_)))))) (b,_)=>((Iter (xdB l c a k) (n,i,b)).isSome,xhF l c a k ((Iter (xdB l c a k) (n,i,b)).getD (0,[])))
theorem xtS:LoopOk Tryz.prog (ITryz.at xlS.pin) xlS.nt (loopAt Tryz.f66 2) xq5:=xaY fun e f h g=>by
 obtain ⟨l,⟨c,⟨a,⟨k,⟨n,⟨i,_⟩⟩⟩⟩⟩⟩:=e
 obtain ⟨b,_⟩:=f
 obtain ⟨d,rfl⟩:=Prod.mk.inj g
 exact xaG mxTryz (inv0Ok Tryz.prog _) rfl xEz xyL (xjq l c a k) (xhF l c a k) (fun p=>by simp only [xhF,LR.eval];first|(simp;done)|(repeat' split<;>simp)) (xGF l c a k) (s:=(n,i,b)) (xab d)
def xlM:Env:=xvo.fn 82 0 (lsOf []) (lpsOf [(3,xnG),(14,xq5)])
theorem xEr:OrcOk Tryz.prog (ITryz.at 0) xlM:=xrN.fn
theorem xzi:LoOk Tryz.prog (ITryz.at xlM.pin) xlM (loopAt Tryz.f66 1):=xaP (ls:=[loopAt Tryz.f66 2]) (by kernel_rfl) (lkC xtS lkN)
def xkS (l c:LA) (b:Nat) (k:Int) (a:LA):=(Iter (xdB l c b k) (0,0,a)).getD (0,[])
def xkU (l c:LA) (a:Nat) (k:Int) (b:LA):=xeh a ((c.getD k.toNat .top).cells.getD 0 .top).toInt (xkS l c a k b).fst (xkS l c a k b).snd
def xle (l c:LA) (b:Nat) (k:Int) (a:LA):=(xkU l c b k a).getD (false,(0,[]),0,[])
def xkW (l c:LA) (b:Nat) (k:Int) (a:LA):=(xle l c b k a).snd
def xk1 (l c:LA) (b:Nat) (k:Int) (a:LA):=(xle l c b k a).fst
def xlb (l c:LA) (b:Nat) (k:Int) (a:LA):=(xkW l c b k a).fst
def xkQ (l c:LA) (b:Nat) (k:Int) (a:LA):=(xkW l c b k a).snd
def xjm {T:Type} (l c:LA) (b:Nat) (k:Int) (a:LA) (δ:T) (κl:(Nat×Int×LA)→T) (κr:(Nat×LA)→T):T:=br (decide (k<c.length)) (br (decide (0≤k)&&decide (k<c.length)) (br (decide (k.toNat<c.length)&&hasSh1 (Sh.int .i64) ((c.getD k.toNat .top).cells.getD 0 .top)) (br (decide (((c.getD k.toNat .top).cells.getD 0 .top).toInt<1099511627776)) (br ((Iter (xdB l c b k) (0,0,a)).isSome) (br (decide (0≤k)&&decide (k<c.length)) (br (decide (k.toNat<c.length)&&hasSh1 (Sh.int .i64) ((c.getD k.toNat .top).cells.getD 0 .top)) (br ((xkU l c b k a).isSome) (κl (br (xk1 l c b k a) (xlb l c b k a).fst (xkQ l c b k a).fst,i64.wrap (k+1),br (xk1 l c b k a) (xlb l c b k a).snd (xkQ l c b k a).snd)) δ) δ) δ) δ) (κr (b,a))) δ) δ) (κr (b,a))
def xdD (l c:LA):(Nat×Int×LA)→Option ((Nat×Int×LA)⊕(Nat×LA)):=fun (b,k,a)=>xjm l c b k a none (fun s=>some (.inl s)) (fun p=>some (.inr p))
def xjj (l c:LA):(Nat×Int×LA)→LA×List Box:=fun (b,k,a)=>([AV.list 3 l,AV.list 1 c,AV.osl 0 0 0 b,AV.int .i64 k],[⟨0,2,75,a,false,true⟩])
def xhQ (l a:LA):(Nat×LA)→LR:=fun p=>(.leaf (.exit 2) [AV.osl 0 0 0 p.1] [⟨0,2,75,p.2,false,true⟩])
abbrev xGI (a:LA) (H:List Box):=XR Tryz.prog xlM [0,3,5,6] [5] [(5,2,75),(3,1,1073741824)] (loopAt Tryz.f66 1) a H
theorem xGt (l a:LA) (s:Nat×Int×LA):Enc (encR (xjj l a) (xhQ l a)) (xdD l a s) (xGI (xjj l a s).1 (xjj l a s).2):=by
 obtain ⟨c,k,b⟩:=s
 refine eV (xjm l a c k b none (fun s=>some (encR (xjj l a) (xhQ l a) (.inl s))) (fun p=>some (encR (xjj l a) (xhQ l a) (.inr p)))) (by kernel_rfl) ?_;unfold xdD xjm;repeat' first|exact eN|exact eS rfl|apply eB
def xvv:Lp:=lpOf [0,3,5,6] [5] [(5,2,75),(3,1,1073741824)] (pCons (pList 3 pAny) (pCons (pList 1 pAny) (pCons (pOsl 0 0 0) (pCons (pInt .i64) pNil)))) (pCons (pBox 0 2 75 false true pAny) pNil) fun (l,(c,(b,(k,_)))) (a,_)=>((Iter (xdD l c) (b,k,a)).isSome,xhQ l c ((Iter (xdD l c) (b,k,a)).getD (0,[])))
theorem xDy:LoopOk Tryz.prog (ITryz.at xlM.pin) xlM.nt (loopAt Tryz.f66 1) xvv:=xaY fun e f h g=>by
 obtain ⟨l,⟨c,⟨b,⟨k,_⟩⟩⟩⟩:=e
 obtain ⟨a,_⟩:=f
 obtain ⟨d,rfl⟩:=Prod.mk.inj g
 exact xaG mxTryz (inv0Ok Tryz.prog _) rfl xEr xzi (xjj l c) (xhQ l c) (fun p=>by simp only [xhQ,LR.eval];first|(simp;done)|(repeat' split<;>simp)) (xGt l c) (s:=(b,k,a)) (xab d)
def xn7:Env:=xvo.fn 82 0 (lsOf []) (lpsOf [(3,xnG),(14,xq5),(10,xvv)])
theorem xFd:OrcOk Tryz.prog (ITryz.at 0) xn7:=xrN.fn
theorem xB2:LoOk Tryz.prog (ITryz.at xn7.pin) xn7 (Tryz.f66.body.getD .skip):=xaP (ls:=[loopAt Tryz.f66 0,loopAt Tryz.f66 1,loopAt Tryz.f66 2]) (by kernel_rfl) (lkC xDp (lkC xDy (lkC xtS lkN)))
def xuu (l:LA):=Iter (xdD l ((Iter (xdC l) ([AV.int .i64 0],0)).getD [])) (0,0,[])
def xu3 (l:LA):=(xuu l).getD (0,[])
def xuo (l:LA):=(xu3 l).fst
def xuP (l:LA):=(xu3 l).snd
def xsr {T:Type} (l:LA) (δ:T) (κ:LA→T):T:=br ((Iter (xdC l) ([AV.int .i64 0],0)).isSome) (br ((xuu l).isSome) (br (decide (0+xuo l≤(xuP l).length)&&true) (κ (List.take (xuo l) (List.drop 0 (xuP l)))) δ) δ) δ
def xoD (l:LA):Option (LA):=xsr l none some
theorem xKL (l:LA):Enc (fun (p:LA)=>((AV.list 2 p):AV)) (xoD l) (XF Tryz.prog xn7 Tryz.f66 (Tryz.f66.body.getD .skip) [AV.list 3 l]):=by
 refine eV (xsr l none (fun (p:LA)=>some ((AV.list 2 p):AV))) (by kernel_rfl) ?_;unfold xoD xsr;repeat' first|exact eN|exact eS rfl|apply eB
def xDD:LA→Option (Bool×AV):=ocOf (sCons (sList 3 pAny) sNil) fun (l,_)=>((xoD l).isSome,(AV.list 2 ((xoD l).getD [])))
theorem xKI:OcOk Tryz.prog ITryz 66 (xDD):=xaN fun c f e=>by
 obtain ⟨l,_⟩:=c
 obtain ⟨a,b⟩:=Prod.mk.inj e
 refine xaH (p:=xn7.pin) (xaL mxTryz (inv0Ok Tryz.prog _) rfl xFd Tryz.func66 rfl (by kernel_rfl) xB2 ((xKL _ _ (xab (d:=[]) a)).trans ?_))
 exact congrArg some b
def xDH:Env:=xvo.with 66 xDD
theorem xy0:OrcOk Tryz.prog ITryz xDH:=xrN.with xKI
def xhK:Env:=xDH.fn 32 0 (lsOf []) (lpsOf [])
theorem xyV:OrcOk Tryz.prog (ITryz.at 0) xhK:=xy0.fn
theorem xuM:LoOk Tryz.prog (ITryz.at xhK.pin) xhK (loopAt Tryz.f39 0):=xaq (by kernel_rfl)
def xh7 {T:Type} (l c:LA) (a:Nat) (i:Int) (b:LA) (δ:T) (κl:(Nat×Int×LA)→T) (κr:(Nat×LA)→T):T:=br (decide (i<l.length)) (br (decide (0≤i)&&decide (i<l.length)) (br (decide (i.toNat<l.length)&&hasSh1 (Sh.list 3) ((l.getD i.toNat .top).cells.getD 0 .top)) (br ((xbh ((l.getD i.toNat .top).cells.getD 0 .top).toList c).isSome) (br ((xbh ((l.getD i.toNat .top).cells.getD 0 .top).toList c).getD 0==0) (br (decide (0≤i)&&decide (i<l.length)) (br (decide (i.toNat<l.length)&&((l.getD i.toNat .top).cells.length==3&&hasShs [Sh.int .i64,Sh.int .i64] (l.getD i.toNat .top).cells 1)) (br (a==b.length&&(decide ((a+1)*24≤140737488355328)&&decide (a+1≤4611686018427387904))) (κl (a+1,i64.wrap (i+1),b++[AV.agg [AV.int .i64 ((l.getD i.toNat .top).cells.getD 1 .top).toInt,AV.int .i64 ((l.getD i.toNat .top).cells.getD 2 .top).toInt,AV.int .i64 1]])) δ) δ) δ) (κl (a,i64.wrap (i+1),b))) δ) δ) δ) (κr (a,b))
def xcz (l b:LA):(Nat×Int×LA)→Option ((Nat×Int×LA)⊕(Nat×LA)):=fun (c,i,a)=>xh7 l b c i a none (fun s=>some (.inl s)) (fun p=>some (.inr p))
def xgC (l b:LA):(Nat×Int×LA)→LA×List Box:=fun (c,i,a)=>([AV.list 3 l,AV.list 3 b,AV.osl 0 0 0 c,AV.int .i64 i],[⟨0,3,78,a,false,true⟩])
def xft (l a:LA):(Nat×LA)→LR:=fun p=>(.leaf (.exit 0) [AV.osl 0 0 0 p.1] [⟨0,3,78,p.2,false,true⟩])
abbrev xAO (a:LA) (H:List Box):=XR Tryz.prog xhK [0,1,5,6] [5] [(5,3,78)] (loopAt Tryz.f39 0) a H
theorem xBb (l a:LA) (s:Nat×Int×LA):Enc (encR (xgC l a) (xft l a)) (xcz l a s) (xAO (xgC l a s).1 (xgC l a s).2):=by
 obtain ⟨c,i,b⟩:=s
 refine eV (xh7 l a c i b none (fun s=>some (encR (xgC l a) (xft l a) (.inl s))) (fun p=>some (encR (xgC l a) (xft l a) (.inr p)))) (by kernel_rfl) ?_;unfold xcz xh7;repeat' first|exact eN|exact eS rfl|apply eB
def xr0:Lp:=lpOf [0,1,5,6] [5] [(5,3,78)] (pCons (pList 3 pAny) (pCons (pList 3 pAny) (pCons (pOsl 0 0 0) (pCons (pInt .i64) pNil)))) (pCons (pBox 0 3 78 false true pAny) pNil) fun (l,(a,(c,(i,_)))) (b,_)=>((Iter (xcz l a) (c,i,b)).isSome,xft l a ((Iter (xcz l a) (c,i,b)).getD (0,[])))
theorem xyd:LoopOk Tryz.prog (ITryz.at xhK.pin) xhK.nt (loopAt Tryz.f39 0) xr0:=xaY fun e f h g=>by
 obtain ⟨l,⟨a,⟨c,⟨i,_⟩⟩⟩⟩:=e
 obtain ⟨b,_⟩:=f
 obtain ⟨d,rfl⟩:=Prod.mk.inj g
 exact xaG mxTryz (inv0Ok Tryz.prog _) rfl xyV xuM (xgC l a) (xft l a) (fun p=>by simp only [xft,LR.eval];first|(simp;done)|(repeat' split<;>simp)) (xBb l a) (s:=(c,i,b)) (xab d)
def xjU:Env:=xDH.fn 32 0 (lsOf []) (lpsOf [(3,xr0)])
theorem xzl:OrcOk Tryz.prog (ITryz.at 0) xjU:=xy0.fn
theorem xv0:LoOk Tryz.prog (ITryz.at xjU.pin) xjU (Tryz.f39.body.getD .skip):=xaP (ls:=[loopAt Tryz.f39 0]) (by kernel_rfl) (lkC xyd lkN)
def xqi (l a:LA):=(Iter (xcz l a) (0,0,[])).getD (0,[])
def xpp (l a:LA):=(xqi l a).snd
def xpC (l a:LA):=(xqi l a).fst
def xqh (l a:LA):=xoD (List.take (xpC l a) (List.drop 0 (xpp l a)))
def xnK {T:Type} (l a:LA) (δ:T) (κ:LA→T):T:=br ((Iter (xcz l a) (0,0,[])).isSome) (br (decide (0+xpC l a≤(xpp l a).length)&&true) (br ((xqh l a).isSome) (κ ((xqh l a).getD [])) δ) δ) δ
def xhp (l a:LA):Option (LA):=xnK l a none some
theorem xEC (l a:LA):Enc (fun (p:LA)=>((AV.list 2 p):AV)) (xhp l a) (XF Tryz.prog xjU Tryz.f39 (Tryz.f39.body.getD .skip) [AV.list 3 l,AV.list 3 a]):=by
 refine eV (xnK l a none (fun (p:LA)=>some ((AV.list 2 p):AV))) (by kernel_rfl) ?_;unfold xhp xnK;repeat' first|exact eN|exact eS rfl|apply eB
def xvP:LA→Option (Bool×AV):=ocOf (sCons (sList 3 pAny) (sCons (sList 3 pAny) sNil)) fun (l,(a,_))=>((xhp l a).isSome,(AV.list 2 ((xhp l a).getD [])))
theorem xEL:OcOk Tryz.prog ITryz 39 (xvP):=xaN fun c g e=>by
 obtain ⟨l,⟨f,_⟩⟩:=c
 obtain ⟨a,b⟩:=Prod.mk.inj e
 refine xaH (p:=xjU.pin) (xaL mxTryz (inv0Ok Tryz.prog _) rfl xzl Tryz.func39 rfl (by kernel_rfl) xv0 ((xEC _ _ _ (xab (d:=[]) a)).trans ?_))
 exact congrArg some b
def xva:Env:=xDH.with 39 xvP
theorem xr2:OrcOk Tryz.prog ITryz xva:=xy0.with xEL
def xhZ:Env:=xva.fn 66 0 (lsOf []) (lpsOf [])
theorem xzJ:OrcOk Tryz.prog (ITryz.at 0) xhZ:=xr2.fn
theorem xuV:LoOk Tryz.prog (ITryz.at xhZ.pin) xhZ (loopAt Tryz.f46 1):=xaq (by kernel_rfl)
def xgj {T:Type} (a:LA) (c:Nat) (i k:Int) (b:LA) (δ:T) (κl:(Int×LA)→T) (κr:(Int×LA)→T):T:=br (decide (k<a.length)) (br (decide (0≤k)&&decide (k<a.length)) (br (decide (k.toNat<a.length)&&hasSh1 (Sh.list 3) ((a.getD k.toNat .top).cells.getD 0 .top)) (br (decide (0≤i)&&decide (i<a.length)) (br (decide (i.toNat<a.length)&&hasSh1 (Sh.list 3) ((a.getD i.toNat .top).cells.getD 0 .top)) (br ((xbh ((a.getD k.toNat .top).cells.getD 0 .top).toList ((a.getD i.toNat .top).cells.getD 0 .top).toList).isSome) (br ((xbh ((a.getD k.toNat .top).cells.getD 0 .top).toList ((a.getD i.toNat .top).cells.getD 0 .top).toList).getD 0==0) (κl (i64.wrap (k+1),b)) (κr (k,b))) δ) δ) δ) δ) δ) (κr (k,b))
def xbs (c:LA) (b:Nat) (i:Int):(Int×LA)→Option ((Int×LA)⊕(Int×LA)):=fun (k,a)=>xgj c b i k a none (fun s=>some (.inl s)) (fun p=>some (.inr p))
def xgA (c:LA) (b:Nat) (i:Int):(Int×LA)→LA×List Box:=fun (k,a)=>([AV.list 3 c,AV.osl 0 0 0 b,AV.int .i64 i,AV.int .i64 k],[⟨0,2,61,a,false,true⟩])
def xfh (b:LA) (a:Nat) (i:Int):(Int×LA)→LR:=fun p=>(.leaf (.exit 2) [AV.list 3 b,AV.osl 0 0 0 a,AV.int .i64 i,AV.int .i64 p.1] [⟨0,2,61,p.2,false,true⟩])
abbrev xBh (a:LA) (H:List Box):=XR Tryz.prog xhZ [3,4,5,6] [3,4,5,6] [(4,2,61)] (loopAt Tryz.f46 1) a H
theorem xAW (b:LA) (a:Nat) (i:Int) (s:Int×LA):Enc (encR (xgA b a i) (xfh b a i)) (xbs b a i s) (xBh (xgA b a i s).1 (xgA b a i s).2):=by
 obtain ⟨k,c⟩:=s
 refine eV (xgj b a i k c none (fun s=>some (encR (xgA b a i) (xfh b a i) (.inl s))) (fun p=>some (encR (xgA b a i) (xfh b a i) (.inr p)))) (by kernel_rfl) ?_;unfold xbs xgj;repeat' first|exact eN|exact eS rfl|apply eB
def xj8:Lp:=lpOf [3,4,5,6] [3,4,5,6] [(4,2,61)] (pCons (pList 3 pAny) (pCons (pOsl 0 0 0) (pCons (pInt .i64) (pCons (pInt .i64) pNil)))) (pCons (pBox 0 2 61 false true pAny) pNil) fun (c,(a,(i,(k,_)))) (b,_)=>((Iter (xbs c a i) (k,b)).isSome,xfh c a i ((Iter (xbs c a i) (k,b)).getD (0,[])))
theorem xqT:LoopOk Tryz.prog (ITryz.at xhZ.pin) xhZ.nt (loopAt Tryz.f46 1) xj8:=xaY fun e f h g=>by
 obtain ⟨b,⟨a,⟨i,⟨k,_⟩⟩⟩⟩:=e
 obtain ⟨c,_⟩:=f
 obtain ⟨d,rfl⟩:=Prod.mk.inj g
 exact xaG mxTryz (inv0Ok Tryz.prog _) rfl xzJ xuV (xgA b a i) (xfh b a i) (fun p=>by simp only [xfh,LR.eval];first|(simp;done)|(repeat' split<;>simp)) (xAW b a i) (s:=(k,c)) (xab d)
def xhD:Env:=xva.fn 66 0 (lsOf []) (lpsOf [(6,xj8)])
theorem xy3:OrcOk Tryz.prog (ITryz.at 0) xhD:=xr2.fn
theorem xuN:LoOk Tryz.prog (ITryz.at xhD.pin) xhD (loopAt Tryz.f46 2):=xaq (by kernel_rfl)
def xgm {T:Type} (d:LA) (i k:Int) (a:LA) (b:Nat) (n:Int) (c:LA) (δ:T) (κl:(Nat×Int×LA)→T) (κr:(Nat×LA)→T):T:=br (decide (n<a.length)) (br (decide (0≤n)&&decide (n<a.length)) (br (decide (n.toNat<a.length)&&hasSh1 (Sh.list 3) ((a.getD n.toNat .top).cells.getD 0 .top)) (br (decide (0≤k)&&decide (k≤d.length)&&(decide (0≤i)&&decide (i≤(↑k.toNat:Int)))) (br (decide (0≤n)&&decide (n<a.length)) (br (decide (n.toNat<a.length)&&hasSh1 (Sh.list 3) ((a.getD n.toNat .top).cells.getD 0 .top)) (br ((xhp (List.take (k.toNat - i.toNat) (List.drop i.toNat d)) ((a.getD n.toNat .top).cells.getD 0 .top).toList).isSome) (br (b==c.length&&(decide ((b+1)*48≤140737488355328)&&decide (b+1≤4611686018427387904))) (κl (b+1,i64.wrap (n+1),c++[AV.agg [AV.list 3 ((a.getD n.toNat .top).cells.getD 0 .top).toList,AV.list 2 ((xhp (List.take (k.toNat - i.toNat) (List.drop i.toNat d)) ((a.getD n.toNat .top).cells.getD 0 .top).toList).getD [])]])) δ) δ) δ) δ) δ) δ) δ) (κr (b,c))
def xct (d:LA) (i k:Int) (c:LA):(Nat×Int×LA)→Option ((Nat×Int×LA)⊕(Nat×LA)):=fun (b,n,a)=>xgm d i k c b n a none (fun s=>some (.inl s)) (fun p=>some (.inr p))
def xgw (d:LA) (i k:Int) (c:LA):(Nat×Int×LA)→LA×List Box:=fun (b,n,a)=>([AV.list 3 d,AV.osl 0 0 0 b,AV.int .i64 i,AV.int .i64 k,AV.list 1 c,AV.int .i64 n],[⟨0,2,61,a,false,true⟩])
def xfb (a:LA) (i k:Int) (b:LA):(Nat×LA)→LR:=fun p=>(.leaf (.exit 4) [AV.list 3 a,AV.osl 0 0 0 p.1,AV.int .i64 k] [⟨0,2,61,p.2,false,true⟩])
abbrev xBg (a:LA) (H:List Box):=XR Tryz.prog xhD [3,4,5,6,7,8] [3,4,6] [(4,2,61)] (loopAt Tryz.f46 2) a H
theorem xA6 (b:LA) (i k:Int) (a:LA) (s:Nat×Int×LA):Enc (encR (xgw b i k a) (xfb b i k a)) (xct b i k a s) (xBg (xgw b i k a s).1 (xgw b i k a s).2):=by
 obtain ⟨d,n,c⟩:=s
 refine eV (xgm b i k a d n c none (fun s=>some (encR (xgw b i k a) (xfb b i k a) (.inl s))) (fun p=>some (encR (xgw b i k a) (xfb b i k a) (.inr p)))) (by kernel_rfl) ?_;unfold xct xgm;repeat' first|exact eN|exact eS rfl|apply eB
def xmk:Lp:=lpOf [3,4,5,6,7,8] [3,4,6] [(4,2,61)] (pCons (pList 3 pAny) (pCons (pOsl 0 0 0) (pCons (pInt .i64) (pCons (pInt .i64) (pCons (pList 1 pAny) (pCons (pInt .i64) pNil)))))) (pCons (pBox 0 2 61 false true pAny) pNil) fun (d,(c,(i,(k,(b,(n,_)))))) (a,_)=>((Iter (xct d i k b) (c,n,a)).isSome,xfb d i k b ((Iter (xct d i k b) (c,n,a)).getD (0,[])))
theorem xqR:LoopOk Tryz.prog (ITryz.at xhD.pin) xhD.nt (loopAt Tryz.f46 2) xmk:=xaY fun f g j h=>by
 obtain ⟨b,⟨d,⟨i,⟨k,⟨a,⟨n,_⟩⟩⟩⟩⟩⟩:=f
 obtain ⟨c,_⟩:=g
 obtain ⟨e,rfl⟩:=Prod.mk.inj h
 exact xaG mxTryz (inv0Ok Tryz.prog _) rfl xy3 xuN (xgw b i k a) (xfb b i k a) (fun p=>by simp only [xfb,LR.eval];first|(simp;done)|(repeat' split<;>simp)) (xA6 b i k a) (s:=(d,n,c)) (xab e)
def xhV:Env:=xva.fn 66 0 (lsOf []) (lpsOf [(6,xj8),(10,xmk)])
theorem xAq:OrcOk Tryz.prog (ITryz.at 0) xhV:=xr2.fn
theorem xul:LoOk Tryz.prog (ITryz.at xhV.pin) xhV (loopAt Tryz.f46 0):=xaP (ls:=[loopAt Tryz.f46 1,loopAt Tryz.f46 2]) (by kernel_rfl) (lkC xqT (lkC xqR lkN))
def xds (c:LA) (b:Nat) (i:Int) (a:LA):=((Iter (xbs c b i) (i,a)).getD (0,[])).fst
def xml (c:LA) (a:Nat) (i:Int) (b:LA):=Iter (xct c i (xds c a i b) ((xke (List.take ((xds c a i b).toNat - i.toNat) (List.drop i.toNat c))).getD [])) (a,0,((Iter (xbs c a i) (i,b)).getD (0,[])).snd)
def xmN (c:LA) (b:Nat) (i:Int) (a:LA):=(xml c b i a).getD (0,[])
def xic {T:Type} (c:LA) (b:Nat) (i:Int) (a:LA) (δ:T) (κl:(Nat×Int×LA)→T) (κr:(Nat×LA)→T):T:=br (decide (i<c.length)) (br ((Iter (xbs c b i) (i,a)).isSome) (br (decide (0≤xds c b i a)&&decide (xds c b i a≤c.length)&&(decide (0≤i)&&decide (i≤(↑(xds c b i a).toNat:Int)))) (br ((xke (List.take ((xds c b i a).toNat - i.toNat) (List.drop i.toNat c))).isSome) (br ((xml c b i a).isSome) (κl ((xmN c b i a).fst,xds c b i a,(xmN c b i a).snd)) δ) δ) δ) δ) (κr (b,a))
def xcw (c:LA):(Nat×Int×LA)→Option ((Nat×Int×LA)⊕(Nat×LA)):=fun (b,i,a)=>xic c b i a none (fun s=>some (.inl s)) (fun p=>some (.inr p))
def xgy (c:LA):(Nat×Int×LA)→LA×List Box:=fun (b,i,a)=>([AV.list 3 c,AV.osl 0 0 0 b,AV.int .i64 i],[⟨0,2,61,a,false,true⟩])
def xe8 (a:LA):(Nat×LA)→LR:=fun p=>(.leaf (.exit 0) [AV.osl 0 0 0 p.1] [⟨0,2,61,p.2,false,true⟩])
abbrev xBd (a:LA) (H:List Box):=XR Tryz.prog xhV [3,4,5] [4] [(4,2,61)] (loopAt Tryz.f46 0) a H
theorem xAM (a:LA) (s:Nat×Int×LA):Enc (encR (xgy a) (xe8 a)) (xcw a s) (xBd (xgy a s).1 (xgy a s).2):=by
 obtain ⟨c,i,b⟩:=s
 refine eV (xic a c i b none (fun s=>some (encR (xgy a) (xe8 a) (.inl s))) (fun p=>some (encR (xgy a) (xe8 a) (.inr p)))) (by kernel_rfl) ?_;unfold xcw xic;repeat' first|exact eN|exact eS rfl|apply eB
def xrR:Lp:=lpOf [3,4,5] [4] [(4,2,61)] (pCons (pList 3 pAny) (pCons (pOsl 0 0 0) (pCons (pInt .i64) pNil))) (pCons (pBox 0 2 61 false true pAny) pNil) fun (c,(b,(i,_))) (a,_)=>((Iter (xcw c) (b,i,a)).isSome,xe8 c ((Iter (xcw c) (b,i,a)).getD (0,[])))
theorem xyA:LoopOk Tryz.prog (ITryz.at xhV.pin) xhV.nt (loopAt Tryz.f46 0) xrR:=xaY fun e f h g=>by
 obtain ⟨a,⟨c,⟨i,_⟩⟩⟩:=e
 obtain ⟨b,_⟩:=f
 obtain ⟨d,rfl⟩:=Prod.mk.inj g
 exact xaG mxTryz (inv0Ok Tryz.prog _) rfl xAq xul (xgy a) (xe8 a) (fun p=>by simp only [xe8,LR.eval];first|(simp;done)|(repeat' split<;>simp)) (xAM a) (s:=(c,i,b)) (xab d)
def xj1:Env:=xva.fn 66 0 (lsOf []) (lpsOf [(6,xj8),(10,xmk),(4,xrR)])
theorem xyX:OrcOk Tryz.prog (ITryz.at 0) xj1:=xr2.fn
theorem xwv:LoOk Tryz.prog (ITryz.at xj1.pin) xj1 (Tryz.f46.body.getD .skip):=xaP (ls:=[loopAt Tryz.f46 0,loopAt Tryz.f46 1,loopAt Tryz.f46 2]) (by kernel_rfl) (lkC xyA (lkC xqT (lkC xqR lkN)))
def xqc (l:LA):=Iter (xcw ((xc1 100 l).getD [])) (0,0,[])
def xqs (l:LA):=(xqc l).getD (0,[])
def xpt (l:LA):=(xqs l).fst
def xpJ (l:LA):=(xqs l).snd
def xnv {T:Type} (l:LA) (δ:T) (κ:LA→T):T:=br ((xc1 100 l).isSome) (br ((xqc l).isSome) (br (decide (0+xpt l≤(xpJ l).length)&&true) (κ (List.take (xpt l) (List.drop 0 (xpJ l)))) δ) δ) δ
def xfY (l:LA):Option (LA):=xnv l none some
theorem xEJ (l:LA):Enc (fun (p:LA)=>((AV.list 2 p):AV)) (xfY l) (XF Tryz.prog xj1 Tryz.f46 (Tryz.f46.body.getD .skip) [AV.list 3 l]):=by
 refine eV (xnv l none (fun (p:LA)=>some ((AV.list 2 p):AV))) (by kernel_rfl) ?_;unfold xfY xnv;repeat' first|exact eN|exact eS rfl|apply eB
def xvQ:LA→Option (Bool×AV):=ocOf (sCons (sList 3 pAny) sNil) fun (l,_)=>((xfY l).isSome,(AV.list 2 ((xfY l).getD [])))
theorem xFa:OcOk Tryz.prog ITryz 46 (xvQ):=xaN fun c f e=>by
 obtain ⟨l,_⟩:=c
 obtain ⟨a,b⟩:=Prod.mk.inj e
 refine xaH (p:=xj1.pin) (xaL mxTryz (inv0Ok Tryz.prog _) rfl xyX Tryz.func46 rfl (by kernel_rfl) xwv ((xEJ _ _ (xab (d:=[]) a)).trans ?_))
 exact congrArg some b
def xDg:Env:=xva.with 46 xvQ
theorem xz5:OrcOk Tryz.prog ITryz xDg:=xr2.with xFa
def xhd:Env:=xDg.fn 42 0 (lsOf []) (lpsOf [])
theorem xyk:OrcOk Tryz.prog (ITryz.at 0) xhd:=xz5.fn
theorem xty:LoOk Tryz.prog (ITryz.at xhd.pin) xhd (loopAt Tryz.f50 0):=xaq (by kernel_rfl)
def xe3 (l:LA) (n i:Int):=decide (((l.getD i.toNat .top).cells.getD 1 .top).toInt≥n)
def xc2 (l:LA) (i:Int):=decide (0≤i)&&decide (i<l.length)
def xeH (l:LA) (b:Nat) (i:Int) (a:LA):=(xdh b ((l.getD i.toNat .top).cells.getD 0 .top).toInt 1099511627776 a).getD (false,(0,[],[]),0,[])
def xeB (l:LA) (b:Nat) (i:Int) (a:LA):=xdh b ((l.getD i.toNat .top).cells.getD 0 .top).toInt ((l.getD (i64.wrap (i+1)).toNat .top).cells.getD 0 .top).toInt a
def xey (l:LA) (i:Int):=decide (i64.wrap (i+1)<(↑l.length:Int))
def xe9 (l:LA) (b:Nat) (i:Int) (a:LA):=(xeB l b i a).getD (false,(0,[],[]),0,[])
def xe0 (l:LA) (b:Nat) (i:Int) (a:LA):=(xeH l b i a).fst
def xfo (l:LA) (b:Nat) (i:Int) (a:LA):=(xeH l b i a).snd
def xfe (l:LA) (b:Nat) (i:Int) (a:LA):=(xe9 l b i a).fst
def xex (l:LA) (b:Nat) (i:Int) (a:LA):=(xe9 l b i a).snd
def xfg (l:LA) (b:Nat) (i:Int) (a:LA):=(xfo l b i a).snd
def xfj (l:LA) (b:Nat) (i:Int) (a:LA):=(xfo l b i a).fst
def xe4 (l:LA) (b:Nat) (i:Int) (a:LA):=(xex l b i a).snd
def xe2 (l:LA) (b:Nat) (i:Int) (a:LA):=(xex l b i a).fst
def xdr {T:Type} (l:LA) (n:Int) (b:Nat) (i:Int) (a:LA) (δ:T) (κl:(Nat×Int×LA)→T) (κr:(Nat×LA)→T):T:=br (decide (i<l.length)) (br (xey l i) (br (decide (0≤i64.wrap (i+1))&&xey l i) (br (decide ((i64.wrap (i+1)).toNat<l.length)&&hasSh1 (Sh.int .i64) ((l.getD (i64.wrap (i+1)).toNat .top).cells.getD 0 .top)) (br (xc2 l i) (br (decide (i.toNat<l.length)&&hasSh1 (Sh.int .i64) ((l.getD i.toNat .top).cells.getD 1 .top)) (br (xe3 l n i) (br (xc2 l i) (br (decide (i.toNat<l.length)&&hasSh1 (Sh.int .i64) ((l.getD i.toNat .top).cells.getD 0 .top)) (br ((xeB l b i a).isSome) (κl (br (xfe l b i a) (xe2 l b i a).fst (xe4 l b i a).fst,i64.wrap (i+1),br (xfe l b i a) (xe2 l b i a).snd.snd (xe4 l b i a).snd)) δ) δ) δ) (κl (b,i64.wrap (i+1),a))) δ) δ) δ) δ) (br (xc2 l i) (br (decide (i.toNat<l.length)&&hasSh1 (Sh.int .i64) ((l.getD i.toNat .top).cells.getD 1 .top)) (br (xe3 l n i) (br (xc2 l i) (br (decide (i.toNat<l.length)&&hasSh1 (Sh.int .i64) ((l.getD i.toNat .top).cells.getD 0 .top)) (br ((xdh b ((l.getD i.toNat .top).cells.getD 0 .top).toInt 1099511627776 a).isSome) (κl (br (xe0 l b i a) (xfj l b i a).fst (xfg l b i a).fst,i64.wrap (i+1),br (xe0 l b i a) (xfj l b i a).snd.snd (xfg l b i a).snd)) δ) δ) δ) (κl (b,i64.wrap (i+1),a))) δ) δ)) (κr (b,a))
def xa2 (l:LA) (n:Int):(Nat×Int×LA)→Option ((Nat×Int×LA)⊕(Nat×LA)):=fun (b,i,a)=>xdr l n b i a none (fun s=>some (.inl s)) (fun p=>some (.inr p))
def xfR (l:LA) (n:Int):(Nat×Int×LA)→LA×List Box:=fun (b,i,a)=>([AV.list 2 l,AV.int .i64 n,AV.osl 0 0 0 b,AV.int .i64 i],[⟨0,2,31,a,false,true⟩])
def xev (l:LA) (n:Int):(Nat×LA)→LR:=fun p=>(.leaf (.exit 0) [AV.osl 0 0 0 p.1] [⟨0,2,31,p.2,false,true⟩])
abbrev xzR (a:LA) (H:List Box):=XR Tryz.prog xhd [0,1,5,6] [5] [(5,2,31)] (loopAt Tryz.f50 0) a H
theorem xz6 (l:LA) (n:Int) (s:Nat×Int×LA):Enc (encR (xfR l n) (xev l n)) (xa2 l n s) (xzR (xfR l n s).1 (xfR l n s).2):=by
 obtain ⟨b,i,a⟩:=s
 refine eV (xdr l n b i a none (fun s=>some (encR (xfR l n) (xev l n) (.inl s))) (fun p=>some (encR (xfR l n) (xev l n) (.inr p)))) (by kernel_rfl) ?_;unfold xa2 xdr;repeat' first|exact eN|exact eS rfl|apply eB
def xqQ:Lp:=lpOf [0,1,5,6] [5] [(5,2,31)] (pCons (pList 2 pAny) (pCons (pInt .i64) (pCons (pOsl 0 0 0) (pCons (pInt .i64) pNil)))) (pCons (pBox 0 2 31 false true pAny) pNil) fun (l,(n,(b,(i,_)))) (a,_)=>((Iter (xa2 l n) (b,i,a)).isSome,xev l n ((Iter (xa2 l n) (b,i,a)).getD (0,[])))
theorem xwI:LoopOk Tryz.prog (ITryz.at xhd.pin) xhd.nt (loopAt Tryz.f50 0) xqQ:=xaY fun d e g f=>by
 obtain ⟨l,⟨n,⟨b,⟨i,_⟩⟩⟩⟩:=d
 obtain ⟨a,_⟩:=e
 obtain ⟨c,rfl⟩:=Prod.mk.inj f
 exact xaG mxTryz (inv0Ok Tryz.prog _) rfl xyk xty (xfR l n) (xev l n) (fun p=>by simp only [xev,LR.eval];first|(simp;done)|(repeat' split<;>simp)) (xz6 l n) (s:=(b,i,a)) (xab c)
def xi3:Env:=xDg.fn 42 0 (lsOf []) (lpsOf [(3,xqQ)])
theorem xyI:OrcOk Tryz.prog (ITryz.at 0) xi3:=xz5.fn
theorem xvU:LoOk Tryz.prog (ITryz.at xi3.pin) xi3 (Tryz.f50.body.getD .skip):=xaP (ls:=[loopAt Tryz.f50 0]) (by kernel_rfl) (lkC xwI lkN)
def xoC (l:LA) (n:Int):=(Iter (xa2 l n) (0,0,[])).getD (0,[])
def xoG (l:LA) (n:Int):=(xoC l n).snd
def xoV (l:LA) (n:Int):=(xoC l n).fst
def xl9 {T:Type} (l:LA) (n:Int) (δ:T) (κ:LA→T):T:=br ((Iter (xa2 l n) (0,0,[])).isSome) (br (decide (0+xoV l n≤(xoG l n).length)&&true) (κ (List.take (xoV l n) (List.drop 0 (xoG l n)))) δ) δ
def xdi (l:LA) (n:Int):Option (LA):=xl9 l n none some
theorem xCW (l:LA) (n:Int):Enc (fun (p:LA)=>((AV.list 2 p):AV)) (xdi l n) (XF Tryz.prog xi3 Tryz.f50 (Tryz.f50.body.getD .skip) [AV.list 2 l,AV.int .i64 n]):=by
 refine eV (xl9 l n none (fun (p:LA)=>some ((AV.list 2 p):AV))) (by kernel_rfl) ?_;unfold xdi xl9;repeat' first|exact eN|exact eS rfl|apply eB
def xua:LA→Option (Bool×AV):=ocOf (sCons (sList 2 pAny) (sCons (sEq (pInt .i64)) sNil)) fun (l,(n,_))=>((xdi l n).isSome,(AV.list 2 ((xdi l n).getD [])))
theorem xDT:OcOk Tryz.prog ITryz 50 (xua):=xaN fun c f e=>by
 obtain ⟨l,⟨n,_⟩⟩:=c
 obtain ⟨a,b⟩:=Prod.mk.inj e
 refine xaH (p:=xi3.pin) (xaL mxTryz (inv0Ok Tryz.prog _) rfl xyI Tryz.func50 rfl (by kernel_rfl) xvU ((xCW _ _ _ (xab (d:=[]) a)).trans ?_))
 exact congrArg some b
def xDv:Env:=xDg.with 50 xua
theorem xyQ:OrcOk Tryz.prog ITryz xDv:=xz5.with xDT
def xiG:Env:=xDv.fn 38 0 (lsOf []) (lpsOf [])
theorem xAL:OrcOk Tryz.prog (ITryz.at 0) xiG:=xyQ.fn
theorem xvg:LoOk Tryz.prog (ITryz.at xiG.pin) xiG (loopAt Tryz.f75 0):=xaq (by kernel_rfl)
def xkE (l:LA) (i:Int):=decide (i.toNat<l.length)&&((l.getD i.toNat .top).cells.length==2&&hasShs [Sh.int .i64,Sh.int .i64] (l.getD i.toNat .top).cells 0)
def xha {T:Type} (l:LA) (a:Nat) (i c d:Int) (b:LA) (δ:T) (κl:(Nat×Int×Int×Int×LA)→T) (κr:(Nat×Int×Int×Int×LA)→T):T:=br (decide (i<l.length)) (br (decide (0≤i)&&decide (i<l.length)) (br (xkE l i) (br (decide (xjp ((l.getD i.toNat .top).cells.getD 0 .top).toInt ((l.getD i.toNat .top).cells.getD 1 .top).toInt c d≤0)) (br (decide (0≤i)&&decide (i<l.length)) (br (xkE l i) (br (a==b.length&&(decide ((a+1)*16≤140737488355328)&&decide (a+1≤4611686018427387904))) (κl (a+1,i64.wrap (i+1),c,d,b++[AV.agg [AV.int .i64 ((l.getD i.toNat .top).cells.getD 0 .top).toInt,AV.int .i64 ((l.getD i.toNat .top).cells.getD 1 .top).toInt]])) δ) δ) δ) (κr (a,i,c,d,b))) δ) δ) (κr (a,i,c,d,b))
def xce (l:LA):(Nat×Int×Int×Int×LA)→Option ((Nat×Int×Int×Int×LA)⊕(Nat×Int×Int×Int×LA)):=fun (b,i,c,d,a)=>xha l b i c d a none (fun s=>some (.inl s)) (fun p=>some (.inr p))
def xhb (l:LA):(Nat×Int×Int×Int×LA)→LA×List Box:=fun (b,i,c,d,a)=>([AV.list 2 l,AV.own 0 0 0 0,AV.osl 1 0 0 b,AV.int .i64 i],[⟨0,2,31,[AV.agg [AV.int .i64 c,AV.int .i64 d]],false,true⟩,⟨0,2,31,a,false,true⟩])
def xfL (l:LA):(Nat×Int×Int×Int×LA)→LR:=fun p=>(.leaf (.exit 0) [AV.list 2 l,AV.own 0 0 0 0,AV.osl 1 0 0 p.1,AV.int .i64 p.2.1] [⟨0,2,31,[AV.agg [AV.int .i64 p.2.2.1,AV.int .i64 p.2.2.2.1]],false,true⟩,⟨0,2,31,p.2.2.2.2,false,true⟩])
abbrev xCc (a:LA) (H:List Box):=XR Tryz.prog xiG [0,3,5,6] [0,3,5,6] [(5,2,31)] (loopAt Tryz.f75 0) a H
theorem xB1 (l:LA) (s:Nat×Int×Int×Int×LA):Enc (encR (xhb l) (xfL l)) (xce l s) (xCc (xhb l s).1 (xhb l s).2):=by
 obtain ⟨b,i,c,d,a⟩:=s
 refine eV (xha l b i c d a none (fun s=>some (encR (xhb l) (xfL l) (.inl s))) (fun p=>some (encR (xhb l) (xfL l) (.inr p)))) (by kernel_rfl) ?_;unfold xce xha;repeat' first|exact eN|exact eS rfl|apply eB
def xsp:Lp:=lpOf [0,3,5,6] [0,3,5,6] [(5,2,31)] (pCons (pList 2 pAny) (pCons (pOwn 0 0 0 0) (pCons (pOsl 1 0 0) (pCons (pInt .i64) pNil)))) (pCons (pBox 0 2 31 false true (pCons (pAgg (pCons (pInt .i64) (pCons (pInt .i64) pNil))) pNil)) (pCons (pBox 0 2 31 false true pAny) pNil)) fun (l,(_,(b,(i,_)))) (((c,(d,_)),_),(a,_))=>((Iter (xce l) (b,i,c,d,a)).isSome,xfL l ((Iter (xce l) (b,i,c,d,a)).getD (0,0,0,0,[])))
theorem xzU:LoopOk Tryz.prog (ITryz.at xiG.pin) xiG.nt (loopAt Tryz.f75 0) xsp:=xaY fun f g j h=>by
 obtain ⟨l,⟨_,⟨b,⟨i,_⟩⟩⟩⟩:=f
 obtain ⟨⟨⟨c,⟨d,_⟩⟩,_⟩,⟨a,_⟩⟩:=g
 obtain ⟨e,rfl⟩:=Prod.mk.inj h
 exact xaG mxTryz (inv0Ok Tryz.prog _) rfl xAL xvg (xhb l) (xfL l) (fun p=>by simp only [xfL,LR.eval];first|(simp;done)|(repeat' split<;>simp)) (xB1 l) (s:=(b,i,c,d,a)) (xab e)
def xk4:Env:=xDv.fn 38 0 (lsOf []) (lpsOf [(3,xsp)])
theorem xAI:OrcOk Tryz.prog (ITryz.at 0) xk4:=xyQ.fn
theorem xyf:LoOk Tryz.prog (ITryz.at xk4.pin) xk4 (Tryz.f75.body.getD .skip):=xaP (ls:=[loopAt Tryz.f75 0]) (by kernel_rfl) (lkC xzU lkN)
def xpM (l:LA) (a b:Int):=Iter (xce l) (0,0,a,b,[])
def xpQ (l:LA) (a b:Int):=(xpM l a b).getD (0,0,0,0,[])
def xrb (l:LA) (a b:Int):=(xpQ l a b).fst
def xqe (l:LA) (a b:Int):=(xpQ l a b).snd
def xla (l:LA) (a b:Int):=xrb l a b+1
def xkZ (l:LA) (a b:Int):=(xqe l a b).fst
def xqV (l:LA) (a b:Int):=(xqe l a b).snd
def xq9 (l:LA) (a b:Int):=List.take (l.length - (xkZ l a b).toNat) (List.drop (xkZ l a b).toNat l)
def xqY (l:LA) (a b:Int):=(xqV l a b).snd
def xk3 (l:LA) (a b:Int):=xla l a b+(xq9 l a b).length
def xq1 (l:LA) (a b:Int):=(xqY l a b).snd
def xq8 (l:LA) (a b:Int):=xq1 l a b++[AV.agg [AV.int .i64 (xqV l a b).fst,AV.int .i64 (xqY l a b).fst]]
def xqx (l:LA) (a b:Int):=xq8 l a b++xq9 l a b
def xoj {T:Type} (l:LA) (a b:Int) (δ:T) (κ:LA→T):T:=br ((xpM l a b).isSome) (br (xrb l a b==(xq1 l a b).length&&(decide (xla l a b*16≤140737488355328)&&decide (xla l a b≤4611686018427387904))) (br (decide (0≤xkZ l a b)&&decide (xkZ l a b≤l.length)) (br (xla l a b==(xq8 l a b).length&&(decide (xk3 l a b*16≤140737488355328)&&decide (xk3 l a b≤4611686018427387904))) (br (decide (0+xk3 l a b≤(xqx l a b).length)&&true) (κ (List.take (xk3 l a b) (List.drop 0 (xqx l a b)))) δ) δ) δ) δ) δ
def xiD (l:LA) (a b:Int):Option (LA):=xoj l a b none some
theorem xGT (l:LA) (a b:Int):Enc (fun (p:LA)=>((AV.list 2 p):AV)) (xiD l a b) (XF Tryz.prog xk4 Tryz.f75 (Tryz.f75.body.getD .skip) [AV.list 2 l,AV.agg [AV.int .i64 a,AV.int .i64 b]]):=by
 refine eV (xoj l a b none (fun (p:LA)=>some ((AV.list 2 p):AV))) (by kernel_rfl) ?_;unfold xiD xoj;repeat' first|exact eN|exact eS rfl|apply eB
def xwZ:LA→Option (Bool×AV):=ocOf (sCons (sList 2 pAny) (sCons (sAgg (sCons (sEq (pInt .i64)) (sCons (sEq (pInt .i64)) sNil))) sNil)) fun (l,((a,(b,_)),_))=>((xiD l a b).isSome,(AV.list 2 ((xiD l a b).getD [])))
theorem xGv:OcOk Tryz.prog ITryz 75 (xwZ):=xaN fun c h e=>by
 obtain ⟨l,⟨⟨f,⟨g,_⟩⟩,_⟩⟩:=c
 obtain ⟨a,b⟩:=Prod.mk.inj e
 refine xaH (p:=xk4.pin) (xaL mxTryz (inv0Ok Tryz.prog _) rfl xAI Tryz.func75 rfl (by kernel_rfl) xyf ((xGT _ _ _ _ (xab (d:=[]) a)).trans ?_))
 exact congrArg some b
def xzo:Env:=xDv.with 75 xwZ
theorem xt4:OrcOk Tryz.prog ITryz xzo:=xyQ.with xGv
def xhP:Env:=xzo.fn 31 0 (lsOf []) (lpsOf [])
theorem xzs:OrcOk Tryz.prog (ITryz.at 0) xhP:=xt4.fn
theorem xu4:LoOk Tryz.prog (ITryz.at xhP.pin) xhP (loopAt Tryz.f48 1):=xaq (by kernel_rfl)
def xie {T:Type} (l:LA) (n:Int) (a b:LA) (i:Int) (δ:T) (κl:(LA×Int)→T) (κr:(LA)→T):T:=br (decide (i<a.length)) (br (decide (0≤i)&&decide (i<a.length)) (br (decide (i.toNat<a.length)&&((a.getD i.toNat .top).cells.length==2&&hasShs [Sh.int .i64,Sh.int .i64] (a.getD i.toNat .top).cells 0)) (br ((xiD b ((a.getD i.toNat .top).cells.getD 0 .top).toInt ((a.getD i.toNat .top).cells.getD 1 .top).toInt).isSome) (κl ((xiD b ((a.getD i.toNat .top).cells.getD 0 .top).toInt ((a.getD i.toNat .top).cells.getD 1 .top).toInt).getD [],i64.wrap (i+1))) δ) δ) δ) (κr (b))
def xbP (l:LA) (n:Int) (b:LA):(LA×Int)→Option ((LA×Int)⊕(LA)):=fun (a,i)=>xie l n b a i none (fun s=>some (.inl s)) (fun p=>some (.inr p))
def xgD (l:LA) (n:Int) (b:LA):(LA×Int)→LA×List Box:=fun (a,i)=>([AV.list 2 l,AV.list 2 a,AV.int .i64 n,AV.list 2 b,AV.int .i64 i],[])
def xfp (l:LA) (n:Int) (a:LA):(LA)→LR:=fun p=>(.leaf (.exit 2) [AV.list 2 l,AV.list 2 p,AV.int .i64 n] [])
abbrev xBm (a:LA) (H:List Box):=XR Tryz.prog xhP [0,3,4,5,6] [0,3,4] [(3,2,1073741824)] (loopAt Tryz.f48 1) a H
theorem xAU (l:LA) (n:Int) (a:LA) (s:LA×Int):Enc (encR (xgD l n a) (xfp l n a)) (xbP l n a s) (xBm (xgD l n a s).1 (xgD l n a s).2):=by
 obtain ⟨b,i⟩:=s
 refine eV (xie l n a b i none (fun s=>some (encR (xgD l n a) (xfp l n a) (.inl s))) (fun p=>some (encR (xgD l n a) (xfp l n a) (.inr p)))) (by kernel_rfl) ?_;unfold xbP xie;repeat' first|exact eN|exact eS rfl|apply eB
def xmz:Lp:=lpOf [0,3,4,5,6] [0,3,4] [(3,2,1073741824)] (pCons (pList 2 pAny) (pCons (pList 2 pAny) (pCons (pInt .i64) (pCons (pList 2 pAny) (pCons (pInt .i64) pNil))))) pNil fun (l,(a,(n,(b,(i,_))))) _=>((Iter (xbP l n b) (a,i)).isSome,xfp l n b ((Iter (xbP l n b) (a,i)).getD []))
theorem xqN:LoopOk Tryz.prog (ITryz.at xhP.pin) xhP.nt (loopAt Tryz.f48 1) xmz:=xaY fun d f g e=>by
 obtain ⟨l,⟨b,⟨n,⟨a,⟨i,_⟩⟩⟩⟩⟩:=d
 obtain ⟨c,rfl⟩:=Prod.mk.inj e
 exact xaG mxTryz (inv0Ok Tryz.prog _) rfl xzs xu4 (xgD l n a) (xfp l n a) (fun p=>by simp only [xfp,LR.eval];first|(simp;done)|(repeat' split<;>simp)) (xAU l n a) (s:=(b,i)) (xab c)
def xhR:Env:=xzo.fn 31 0 (lsOf []) (lpsOf [(9,xmz)])
theorem xz1:OrcOk Tryz.prog (ITryz.at 0) xhR:=xt4.fn
theorem xuX:LoOk Tryz.prog (ITryz.at xhR.pin) xhR (loopAt Tryz.f48 0):=xaP (ls:=[loopAt Tryz.f48 1]) (by kernel_rfl) (lkC xqN lkN)
def xh9 {T:Type} (l a:LA) (n:Int) (δ:T) (κl:(LA×Int)→T) (κr:(Bool×(LA×LA)×(LA))→T):T:=br (decide (n≤1048576)) (br ((xdi l n).isSome) (br ((↑((xdi l n).getD []).length:Int)==0) (κr (true,(a,a),[])) (br ((Iter (xbP l n ((xdi l n).getD [])) (a,0)).isSome) (κl ((Iter (xbP l n ((xdi l n).getD [])) (a,0)).getD [],i64.wrap (n+1))) δ)) δ) (κr (false,([],[]),(a)))
def xbR (l:LA):(LA×Int)→Option ((LA×Int)⊕(Bool×(LA×LA)×(LA))):=fun (a,n)=>xh9 l a n none (fun s=>some (.inl s)) (fun p=>some (.inr p))
def xgh (l:LA):(LA×Int)→LA×List Box:=fun (a,n)=>([AV.list 2 l,AV.list 2 a,AV.int .i64 n],[])
def xfl (l:LA):(Bool×(LA×LA)×(LA))→LR:=fun p=>(.node p.1 (.leaf .ret [AV.list 2 p.2.1.1,AV.list 2 p.2.1.2] []) (.leaf (.exit 0) [.top,AV.list 2 p.2.2] []))
abbrev xAY (a:LA) (H:List Box):=XR Tryz.prog xhR [0,3,4] [2,3] [(3,2,1073741824)] (loopAt Tryz.f48 0) a H
theorem xA5 (l:LA) (s:LA×Int):Enc (encR (xgh l) (xfl l)) (xbR l s) (xAY (xgh l s).1 (xgh l s).2):=by
 obtain ⟨a,n⟩:=s
 refine eV (xh9 l a n none (fun s=>some (encR (xgh l) (xfl l) (.inl s))) (fun p=>some (encR (xgh l) (xfl l) (.inr p)))) (by kernel_rfl) ?_;unfold xbR xh9;repeat' first|exact eN|exact eS rfl|apply eB
def xrB:Lp:=lpOf [0,3,4] [2,3] [(3,2,1073741824)] (pCons (pList 2 pAny) (pCons (pList 2 pAny) (pCons (pInt .i64) pNil))) pNil fun (l,(a,(n,_))) _=>((Iter (xbR l) (a,n)).isSome,xfl l ((Iter (xbR l) (a,n)).getD (false,([],[]),[])))
theorem xyt:LoopOk Tryz.prog (ITryz.at xhR.pin) xhR.nt (loopAt Tryz.f48 0) xrB:=xaY fun c e f d=>by
 obtain ⟨l,⟨a,⟨n,_⟩⟩⟩:=c
 obtain ⟨b,rfl⟩:=Prod.mk.inj d
 exact xaG mxTryz (inv0Ok Tryz.prog _) rfl xz1 xuX (xgh l) (xfl l) (fun p=>by simp only [xfl,LR.eval];first|(simp;done)|(repeat' split<;>simp)) (xA5 l) (s:=(a,n)) (xab b)
def xj7:Env:=xzo.fn 31 0 (lsOf []) (lpsOf [(9,xmz),(3,xrB)])
theorem xzd:OrcOk Tryz.prog (ITryz.at 0) xj7:=xt4.fn
theorem xwJ:LoOk Tryz.prog (ITryz.at xj7.pin) xj7 (Tryz.f48.body.getD .skip):=xaP (ls:=[loopAt Tryz.f48 0,loopAt Tryz.f48 1]) (by kernel_rfl) (lkC xyt (lkC xqN lkN))
def xpS (l:LA):=(Iter (xbR l) ([],1)).getD (false,([],[]),[])
def xp7 (l:LA):=(xpS l).snd
def xnA {T:Type} (l:LA) (δ:T) (κ:LA→T):T:=br ((Iter (xbR l) ([],1)).isSome) (br ((xpS l).fst) (κ ((xp7 l).fst.fst)) (κ ((xp7 l).snd))) δ
def xdk (l:LA):Option (LA):=xnA l none some
theorem xEK (l:LA):Enc (fun (p:LA)=>((AV.list 2 p):AV)) (xdk l) (XF Tryz.prog xj7 Tryz.f48 (Tryz.f48.body.getD .skip) [AV.list 2 l]):=by
 refine eV (xnA l none (fun (p:LA)=>some ((AV.list 2 p):AV))) (by kernel_rfl) ?_;unfold xdk xnA;repeat' first|exact eN|exact eS rfl|apply eB
def xvw:LA→Option (Bool×AV):=ocOf (sCons (sList 2 pAny) sNil) fun (l,_)=>((xdk l).isSome,(AV.list 2 ((xdk l).getD [])))
theorem xEx:OcOk Tryz.prog ITryz 48 (xvw):=xaN fun c f e=>by
 obtain ⟨l,_⟩:=c
 obtain ⟨a,b⟩:=Prod.mk.inj e
 refine xaH (p:=xj7.pin) (xaL mxTryz (inv0Ok Tryz.prog _) rfl xzd Tryz.func48 rfl (by kernel_rfl) xwJ ((xEK _ _ (xab (d:=[]) a)).trans ?_))
 exact congrArg some b
def xMU:Env:=xzo.with 48 xvw
theorem xMO:OrcOk Tryz.prog ITryz xMU:=xt4.with xEx
abbrev EKR2:Env:=xMU
theorem xEp:OrcOk Tryz.prog ITryz EKR2:=xMO
end Go.Sim.M
end
noncomputable section
set_option maxRecDepth 100000
namespace Go.Sim.M
open Go.IntKind (i64 u64 u8)
open Go.RowKit Go.Proofs
def xh3:Env:=EKR2.fn 23 0 (lsOf []) (lpsOf [])
theorem xzj:OrcOk Tryz.prog (ITryz.at 0) xh3:=xEp.fn
theorem xuO:LoOk Tryz.prog (ITryz.at xh3.pin) xh3 (loopAt Tryz.f47 0):=xaq (by kernel_rfl)
def xif {T:Type} (d c:LA) (a:Nat) (i:Int) (b:LA) (δ:T) (κl:(Nat×Int×LA)→T) (κr:(Nat×LA)→T):T:=br (decide (i<c.length)) (br (decide (0≤i)&&decide (i<c.length)) (br (decide (i.toNat<c.length)&&((c.getD i.toNat .top).cells.length==2&&hasShs [Sh.int .i64,Sh.int .i64] (c.getD i.toNat .top).cells 0)) (br (a==b.length&&(decide ((a+1)*40≤140737488355328)&&decide (a+1≤4611686018427387904))) (κl (a+1,i64.wrap (i+1),b++[AV.agg [AV.list 3 d,AV.int .i64 ((c.getD i.toNat .top).cells.getD 0 .top).toInt,AV.int .i64 ((c.getD i.toNat .top).cells.getD 1 .top).toInt]])) δ) δ) δ) (κr (a,b))
def xbS (c d:LA):(Nat×Int×LA)→Option ((Nat×Int×LA)⊕(Nat×LA)):=fun (b,i,a)=>xif c d b i a none (fun s=>some (.inl s)) (fun p=>some (.inr p))
def xgl (c d:LA):(Nat×Int×LA)→LA×List Box:=fun (b,i,a)=>([AV.list 3 c,AV.list 2 d,AV.osl 0 0 0 b,AV.int .i64 i],[⟨0,3,42,a,false,true⟩])
def xfs (a b:LA):(Nat×LA)→LR:=fun p=>(.leaf (.exit 0) [AV.osl 0 0 0 p.1] [⟨0,3,42,p.2,false,true⟩])
abbrev xBq (a:LA) (H:List Box):=XR Tryz.prog xh3 [0,1,5,6] [5] [(5,3,42)] (loopAt Tryz.f47 0) a H
theorem xAX (a b:LA) (s:Nat×Int×LA):Enc (encR (xgl a b) (xfs a b)) (xbS a b s) (xBq (xgl a b s).1 (xgl a b s).2):=by
 obtain ⟨d,i,c⟩:=s
 refine eV (xif a b d i c none (fun s=>some (encR (xgl a b) (xfs a b) (.inl s))) (fun p=>some (encR (xgl a b) (xfs a b) (.inr p)))) (by kernel_rfl) ?_;unfold xbS xif;repeat' first|exact eN|exact eS rfl|apply eB
def xrq:Lp:=lpOf [0,1,5,6] [5] [(5,3,42)] (pCons (pList 3 pAny) (pCons (pList 2 pAny) (pCons (pOsl 0 0 0) (pCons (pInt .i64) pNil)))) (pCons (pBox 0 3 42 false true pAny) pNil) fun (c,(d,(b,(i,_)))) (a,_)=>((Iter (xbS c d) (b,i,a)).isSome,xfs c d ((Iter (xbS c d) (b,i,a)).getD (0,[])))
theorem xyc:LoopOk Tryz.prog (ITryz.at xh3.pin) xh3.nt (loopAt Tryz.f47 0) xrq:=xaY fun f g j h=>by
 obtain ⟨a,⟨d,⟨c,⟨i,_⟩⟩⟩⟩:=f
 obtain ⟨b,_⟩:=g
 obtain ⟨e,rfl⟩:=Prod.mk.inj h
 exact xaG mxTryz (inv0Ok Tryz.prog _) rfl xzj xuO (xgl a d) (xfs a d) (fun p=>by simp only [xfs,LR.eval];first|(simp;done)|(repeat' split<;>simp)) (xAX a d) (s:=(c,i,b)) (xab e)
def xjD:Env:=EKR2.fn 23 0 (lsOf []) (lpsOf [(3,xrq)])
theorem xy6:OrcOk Tryz.prog (ITryz.at 0) xjD:=xEp.fn
theorem xwq:LoOk Tryz.prog (ITryz.at xjD.pin) xjD (Tryz.f47.body.getD .skip):=xaP (ls:=[loopAt Tryz.f47 0]) (by kernel_rfl) (lkC xyc lkN)
def xpx (a b:LA):=(Iter (xbS a b) (0,0,[])).getD (0,[])
def xp5 (a b:LA):=(xpx a b).snd
def xpX (a b:LA):=(xpx a b).fst
def xm8 {T:Type} (a b:LA) (δ:T) (κ:LA→T):T:=br ((Iter (xbS a b) (0,0,[])).isSome) (br (decide (0+xpX a b≤(xp5 a b).length)&&true) (κ (List.take (xpX a b) (List.drop 0 (xp5 a b)))) δ) δ
def xf8 (a b:LA):Option (LA):=xm8 a b none some
theorem xFz (a b:LA):Enc (fun (p:LA)=>((AV.list 3 p):AV)) (xf8 a b) (XF Tryz.prog xjD Tryz.f47 (Tryz.f47.body.getD .skip) [AV.list 3 a,AV.list 2 b]):=by
 refine eV (xm8 a b none (fun (p:LA)=>some ((AV.list 3 p):AV))) (by kernel_rfl) ?_;unfold xf8 xm8;repeat' first|exact eN|exact eS rfl|apply eB
def xvX:LA→Option (Bool×AV):=ocOf (sCons (sList 3 pAny) (sCons (sList 2 pAny) sNil)) fun (a,(b,_))=>((xf8 a b).isSome,(AV.list 3 ((xf8 a b).getD [])))
theorem xEW:OcOk Tryz.prog ITryz 47 (xvX):=xaN fun c g e=>by
 obtain ⟨f,⟨h,_⟩⟩:=c
 obtain ⟨a,b⟩:=Prod.mk.inj e
 refine xaH (p:=xjD.pin) (xaL mxTryz (inv0Ok Tryz.prog _) rfl xy6 Tryz.func47 rfl (by kernel_rfl) xwq ((xFz _ _ _ (xab (d:=[]) a)).trans ?_))
 exact congrArg some b
def xDe:Env:=EKR2.with 47 xvX
theorem xz9:OrcOk Tryz.prog ITryz xDe:=xEp.with xEW
def xk2:Env:=xDe.fn 29 0 (lsOf []) (lpsOf [])
theorem xDN:OrcOk Tryz.prog (ITryz.at 0) xk2:=xz9.fn
theorem xyw:LoOk Tryz.prog (ITryz.at xk2.pin) xk2 (loopAt Tryz.f15 0):=xaq (by kernel_rfl)
def xma (g:LA) (a:Nat) (i:Int):=a+((xf8 ((g.getD i.toNat .top).cells.getD 0 .top).toList ((xdk ((g.getD i.toNat .top).cells.getD 1 .top).toList).getD [])).getD []).length
def xkM {T:Type} (g:LA) (a:Nat) (i:Int) (b:LA) (δ:T) (κl:(Nat×Int×LA)→T) (κr:(Nat×LA)→T):T:=br (decide (i<g.length)) (br (decide (0≤i)&&decide (i<g.length)) (br (decide (i.toNat<g.length)&&hasSh1 (Sh.list 3) ((g.getD i.toNat .top).cells.getD 0 .top)) (br (decide (0≤i)&&decide (i<g.length)) (br (decide (i.toNat<g.length)&&hasSh1 (Sh.list 2) ((g.getD i.toNat .top).cells.getD 1 .top)) (br ((xdk ((g.getD i.toNat .top).cells.getD 1 .top).toList).isSome) (br ((xf8 ((g.getD i.toNat .top).cells.getD 0 .top).toList ((xdk ((g.getD i.toNat .top).cells.getD 1 .top).toList).getD [])).isSome) (br (a==b.length&&(decide (xma g a i*40≤140737488355328)&&decide (xma g a i≤4611686018427387904))) (κl (xma g a i,i64.wrap (i+1),b++(xf8 ((g.getD i.toNat .top).cells.getD 0 .top).toList ((xdk ((g.getD i.toNat .top).cells.getD 1 .top).toList).getD [])).getD [])) δ) δ) δ) δ) δ) δ) δ) (κr (a,b))
def xdg (g:LA):(Nat×Int×LA)→Option ((Nat×Int×LA)⊕(Nat×LA)):=fun (b,i,a)=>xkM g b i a none (fun s=>some (.inl s)) (fun p=>some (.inr p))
def xiI (g:LA):(Nat×Int×LA)→LA×List Box:=fun (b,i,a)=>([AV.list 2 g,AV.osl 0 0 0 b,AV.int .i64 i],[⟨0,3,42,a,false,true⟩])
def xgV (g:LA):(Nat×LA)→LR:=fun p=>(.leaf (.exit 0) [AV.osl 0 0 0 p.1] [⟨0,3,42,p.2,false,true⟩])
abbrev xE3 (a:LA) (H:List Box):=XR Tryz.prog xk2 [3,4,5] [4] [(4,3,42)] (loopAt Tryz.f15 0) a H
theorem xEO (g:LA) (s:Nat×Int×LA):Enc (encR (xiI g) (xgV g)) (xdg g s) (xE3 (xiI g s).1 (xiI g s).2):=by
 obtain ⟨b,i,a⟩:=s
 refine eV (xkM g b i a none (fun s=>some (encR (xiI g) (xgV g) (.inl s))) (fun p=>some (encR (xiI g) (xgV g) (.inr p)))) (by kernel_rfl) ?_;unfold xdg xkM;repeat' first|exact eN|exact eS rfl|apply eB
def xtN:Lp:=lpOf [3,4,5] [4] [(4,3,42)] (pCons (pList 2 pAny) (pCons (pOsl 0 0 0) (pCons (pInt .i64) pNil))) (pCons (pBox 0 3 42 false true pAny) pNil) fun (g,(b,(i,_))) (a,_)=>((Iter (xdg g) (b,i,a)).isSome,xgV g ((Iter (xdg g) (b,i,a)).getD (0,[])))
theorem xB9:LoopOk Tryz.prog (ITryz.at xk2.pin) xk2.nt (loopAt Tryz.f15 0) xtN:=xaY fun d e h f=>by
 obtain ⟨g,⟨b,⟨i,_⟩⟩⟩:=d
 obtain ⟨a,_⟩:=e
 obtain ⟨c,rfl⟩:=Prod.mk.inj f
 exact xaG mxTryz (inv0Ok Tryz.prog _) rfl xDN xyw (xiI g) (xgV g) (fun p=>by simp only [xgV,LR.eval];first|(simp;done)|(repeat' split<;>simp)) (xEO g) (s:=(b,i,a)) (xab c)
def xmU:Env:=xDe.fn 29 0 (lsOf []) (lpsOf [(4,xtN)])
theorem xDL:OrcOk Tryz.prog (ITryz.at 0) xmU:=xz9.fn
theorem xA7:LoOk Tryz.prog (ITryz.at xmU.pin) xmU (Tryz.f15.body.getD .skip):=xaP (ls:=[loopAt Tryz.f15 0]) (by kernel_rfl) (lkC xB9 lkN)
def xsQ (l:LA):=(Iter (xdg ((xfY l).getD [])) (0,0,[])).getD (0,[])
def xsR (l:LA):=(xsQ l).fst
def xs7 (l:LA):=(xsQ l).snd
def xrk {T:Type} (l:LA) (δ:T) (κ:LA→T):T:=br ((xfY l).isSome) (br ((Iter (xdg ((xfY l).getD [])) (0,0,[])).isSome) (br (decide (0+xsR l≤(xs7 l).length)&&true) (κ (List.take (xsR l) (List.drop 0 (xs7 l)))) δ) δ) δ
def xfV (l:LA):Option (LA):=xrk l none some
theorem xIT (l:LA):Enc (fun (p:LA)=>((AV.list 3 p):AV)) (xfV l) (XF Tryz.prog xmU Tryz.f15 (Tryz.f15.body.getD .skip) [AV.list 3 l]):=by
 refine eV (xrk l none (fun (p:LA)=>some ((AV.list 3 p):AV))) (by kernel_rfl) ?_;unfold xfV xrk;repeat' first|exact eN|exact eS rfl|apply eB
def xBO:LA→Option (Bool×AV):=ocOf (sCons (sList 3 pAny) sNil) fun (l,_)=>((xfV l).isSome,(AV.list 3 ((xfV l).getD [])))
theorem xIZ:OcOk Tryz.prog ITryz 15 (xBO):=xaN fun c f e=>by
 obtain ⟨l,_⟩:=c
 obtain ⟨a,b⟩:=Prod.mk.inj e
 refine xaH (p:=xmU.pin) (xaL mxTryz (inv0Ok Tryz.prog _) rfl xDL Tryz.func15 rfl (by kernel_rfl) xA7 ((xIT _ _ (xab (d:=[]) a)).trans ?_))
 exact congrArg some b
def xMT:Env:=xDe.with 15 xBO
theorem xMo:OrcOk Tryz.prog ITryz xMT:=xz9.with xIZ
abbrev xLr:Env:=xMT
theorem xLP:OrcOk Tryz.prog ITryz xLr:=xMo
abbrev xLS:Env:=xLr
theorem xMf:OrcOk Tryz.prog ITryz xLS:=xLP
abbrev xMR:Env:=xLS
theorem xLu:OrcOk Tryz.prog ITryz xMR:=xMf
abbrev xLi:Env:=xMR
theorem xLz:OrcOk Tryz.prog ITryz xLi:=xLu
abbrev xL3:Env:=xLi
theorem xL4:OrcOk Tryz.prog ITryz xL3:=xLz
abbrev xH3:Env:=xL3
theorem xFP:OrcOk Tryz.prog ITryz xH3:=xL4
def xlE:Env:=xH3.fn 10 0 (lsOf []) (lpsOf [])
theorem xCt:OrcOk Tryz.prog (ITryz.at 0) xlE:=xFP.fn
theorem xAn:LoOk Tryz.prog (ITryz.at xlE.pin) xlE (Tryz.f36.body.getD .skip):=xaq (by kernel_rfl)
def xqu {T:Type} (a b:LA) (δ:T) (κ:Bool→T):T:=br ((xfV a).isSome) (br ((xfV b).isSome) (br ((xdp ((xfV a).getD []) ((xfV b).getD [])).isSome) (κ ((xdp ((xfV a).getD []) ((xfV b).getD [])).getD false)) δ) δ) δ
def xjT (a b:LA):Option (Bool):=xqu a b none some
theorem xG8 (a b:LA):Enc (fun (p:Bool)=>((AV.bool p):AV)) (xjT a b) (XF Tryz.prog xlE Tryz.f36 (Tryz.f36.body.getD .skip) [AV.list 3 a,AV.list 3 b]):=by
 refine eV (xqu a b none (fun (p:Bool)=>some ((AV.bool p):AV))) (by kernel_rfl) ?_;unfold xjT xqu;repeat' first|exact eN|exact eS rfl|apply eB
def xzN:LA→Option (Bool×AV):=ocOf (sCons (sList 3 pAny) (sCons (sList 3 pAny) sNil)) fun (a,(b,_))=>((xjT a b).isSome,(AV.bool ((xjT a b).getD false)))
theorem xH2:OcOk Tryz.prog ITryz 36 (xzN):=xaN fun f h g=>by
 obtain ⟨a,⟨b,_⟩⟩:=f
 obtain ⟨c,e⟩:=Prod.mk.inj g
 refine xaH (p:=xlE.pin) (xaL mxTryz (inv0Ok Tryz.prog _) rfl xCt Tryz.func36 rfl (by kernel_rfl) xAn ((xG8 _ _ _ (xab (d:=false) c)).trans ?_))
 exact congrArg some e
def xMk:Env:=xH3.with 36 xzN
theorem xLm:OrcOk Tryz.prog ITryz xMk:=xFP.with xH2
abbrev xJw:Env:=xMk
theorem xKn:OrcOk Tryz.prog ITryz xJw:=xLm
abbrev EKR3:Env:=xJw
theorem xPE:OrcOk Tryz.prog ITryz EKR3:=xKn
end Go.Sim.M
end
noncomputable section
set_option maxRecDepth 100000
namespace Go.Sim
def stepX (P:Program) (E:Env) (live liveO:List Nat) (conv:List (Nat×Nat×TypeId)) (c:Code) (s:List AV×List Box):Option ((List AV×List Box)⊕{r:Exit×List AV×List Box // r.1≠.normal}) :=
 match XR P E live liveO conv c s.1 s.2 with
 | some (.normal,v,H)=>some (.inl (v,H))
 | some (.exit i,v,H)=>some (.inr ⟨(.exit i,v,H),by simp⟩)
 | some (.ret,v,H)=>some (.inr ⟨(.ret,v,H),by simp⟩)
 | _=>none
def closedLp (P:Program) (E:Env) (live liveO:List Nat) (conv:List (Nat×Nat×TypeId)) (c:Code) (n:Nat):Lp:=⟨live,liveO,conv,fun vals H =>
 match iterN (stepX P E live liveO conv c) n (vals,H) with
 | some r=>some (true,.leaf r.1.1 r.1.2.1 r.1.2.2)
 | none=>none⟩
theorem xIU {P:Program} {Inv:IV} {E:Env} (hmx:P.follows .mixedOrders=true) (hIo:InvOk Inv) (hpin:Inv.pin=E.pin) (hor:OrcOk P Inv E) {c:Code} (hlo:LoOk P Inv E c) {live liveO:List Nat} {conv:List (Nat×Nat×TypeId)} {n:Nat} :
  LoopOk P Inv E.nt c (closedLp P E live liveO conv c n):=fun vals H r h=>by
 simp only [closedLp] at h
 split at h
 case h_2=>simp at h
 rename_i r0 hr
 simp only [Option.some.injEq,Prod.mk.injEq,true_and] at h
 subst h
 exact xaG hmx hIo hpin hor hlo (σ:=List AV×List Box) (ρ:={r:Exit×List AV×List Box // r.1≠.normal}) (step:=stepX P E live liveO conv c) (fun s=>s) (fun r=>.leaf r.1.1 r.1.2.1 r.1.2.2) (fun r=>r.2)
  (fun s r hs=>by
   unfold stepX at hs
   split at hs<;>simp only [Option.some.injEq,reduceCtorEq] at hs
   all_goals (subst hs;rename_i hx;exact hx)) (s:=(vals,H)) (r:=r0) (xq4.2 ⟨n,hr⟩)
end Go.Sim
namespace Go.Sim.M
open Go.RowKit Go.Proofs
def mmA (g:FuncId):Bool:=([115,117,
 129,154,167,
 95,128,146,
 69,94,120,
 53,82,100,55,
 92,119,141,
 112,137,157,
 97,68,90,78]:List Nat).contains g
noncomputable def EA0:Env:={ E0 with ls:=lsOf [40,42,83],fuel:=1000 }
theorem xMB:OrcOk Tryz.prog ITryz EA0:=xKp
noncomputable def EAr:Env:={ Env.deep Tryz.prog mmA EA0 10 with pin:=0,nt:=60,ls:=lsOf [] }
theorem xNb:OrcOk Tryz.prog (ITryz.at 0) EAr:=xsH mxTryz mmA (inv0Ok Tryz.prog 0) xMB (fun _=>rfl) 10
noncomputable def xMg:Lp:=closedLp Tryz.prog EAr [3,4,11,12,13] [4] [(4,2,133280301139)] (loopAt Tryz.f67 0) 100
noncomputable def EAr1:Env:={ EAr with lp:=lpsOf [(codeId (loopAt Tryz.f67 0),xMg)] }
theorem xPf:OrcOk Tryz.prog (ITryz.at 0) EAr1:=xNb
noncomputable def xEH:List AV→Option (Bool×AV):=fun xs=>match XF Tryz.prog EAr1 Tryz.f67 (Tryz.f67.body.getD .skip) xs with
 | some r=>some (true,r)
 | none=>none
theorem xO4:OcOk Tryz.prog ITryz 67 xEH:=fun xs r h=>by
 unfold xEH at h
 split at h
 case h_2=>simp at h
 rename_i r0 hr
 simp only [Option.some.injEq,Prod.mk.injEq,true_and] at h
 subst h
 refine xaH (p:=0) (xaL mxTryz (inv0Ok Tryz.prog _) rfl xPf Tryz.func67 rfl (by kernel_rfl) (xaP (ls:=[loopAt Tryz.f67 0]) (by kernel_rfl) (fun l hl lp hs=>?_)) hr)
 simp only [List.mem_cons,List.not_mem_nil,or_false] at hl
 subst hl
 rw [show EAr1.lp (codeId (loopAt Tryz.f67 0))=some xMg by kernel_rfl] at hs
 simp only [Option.some.injEq] at hs
 subst hs
 exact xIU (E:=EAr) mxTryz (inv0Ok Tryz.prog _) rfl xNb (xro fun _=>rfl)
noncomputable def EAs:Env:=EA0.with 67 xEH
theorem xLp:OrcOk Tryz.prog ITryz EAs:=xMB.with xO4
noncomputable def EAd:Env:={ Env.deep Tryz.prog mmA EAs 14 with pin:=0 }
mutual
def eqV:AV→AV→Bool
 | .int k a,.int k' b=>decide (k=k')&&decide (a=b)
 | .bool a,.bool b=>a==b
 | .str a,.str b=>decide (a=b)
 | .list n a,.list m b=>Nat.beq n m&&eqVs a b
 | .agg a,.agg b=>eqVs a b
 | _,_=>false
def eqVs:List AV→List AV→Bool
 | [],[]=>true
 | a::l,b::m=>eqV a b&&eqVs l m
 | _,_=>false
end
mutual
theorem xPT:∀ (a b:AV),eqV a b=true→a=b:=fun a b h=>by
 cases a<;>cases b<;>first|(simp [eqV] at h;done)|skip
 all_goals simp only [eqV,Bool.and_eq_true,decide_eq_true_eq,beq_iff_eq] at h
 all_goals first|(rw [h.1,h.2];done)|(rw [h];done)|(rw [Nat.eq_of_beq_eq_true h.1,xAC _ _ h.2];done)|(rw [xAC _ _ h])
theorem xAC:∀ (a b:List AV),eqVs a b=true→a=b
 | [],[],_=>rfl
 | a::l,b::m,h=>by simp only [eqVs,Bool.and_eq_true] at h;rw [xPT a b h.1,xAC l m h.2]
 | [],_::_,h=>by simp [eqVs] at h
 | _::_,[],h=>by simp [eqVs] at h
end
def ptO (args:List AV) (r:AV):List AV→Option (Bool×AV):=fun xs=>match eqVs xs args with
 | true=>some (true,r)
 | false=>none
theorem xG1 {P:Program} {Inv:IV} {f:FuncId} {args:List AV} {r:AV} (h:Good P Inv f args r):OcOk P Inv f (ptO args r):=fun xs r0 h0=>by
 unfold ptO at h0
 split at h0
 case h_2=>simp at h0
 rename_i he
 simp only [Option.some.injEq,Prod.mk.injEq,true_and] at h0
 subst h0
 rw [xAC _ _ he];exact h
theorem xtX {f:FuncId} {fn:Func} {args:List AV} {r:AV} (hf:Tryz.prog.funcs[f]?=some fn) (hb:fn.body.isSome=true) (hname:(fn.name == "runtime.NumGoroutine")=false) (h:XF Tryz.prog EAd fn (fn.body.getD .skip) args=some r):Good Tryz.prog ITryz f args r :=
 xaH (p:=0) (xaL mxTryz (inv0Ok Tryz.prog _) rfl (xtO (xsH mxTryz mmA (inv0Ok Tryz.prog 0) xLp (fun _=>rfl) 14)) hf hb hname (xro fun _=>rfl) h)
def fcA (a b:Int):AV:=.agg [.list 3 [.agg [.int .i64 1,.int .i64 1,.str []]],.int .i64 a,.int .i64 b]
def lA:AV:=.list 3 [fcA 0 5,fcA 5 8,fcA 2 3]
set_option maxRecDepth 100000 in
theorem xQf:XF Tryz.prog EAd Tryz.f14 (Tryz.f14.body.getD .skip) [lA]=some (.list 3 [fcA 0 8,fcA 2 3]):=by kernel_rfl
theorem xPP:XF Tryz.prog EAd Tryz.f16 (Tryz.f16.body.getD .skip) [lA]=some (.list 3 [fcA 0 8]):=by kernel_rfl
theorem xP0:OcOk Tryz.prog ITryz 14 (ptO [lA] (.list 3 [fcA 0 8,fcA 2 3])):=xG1 (xtX Tryz.func14 rfl (by kernel_rfl) xQf)
theorem xP1:OcOk Tryz.prog ITryz 16 (ptO [lA] (.list 3 [fcA 0 8])):=xG1 (xtX Tryz.func16 rfl (by kernel_rfl) xPP)
def resA:AV:=.list 3 [fcA 2 5,fcA 5 6,fcA 2 3]
theorem xPx:XF Tryz.prog EAd Tryz.f14 (Tryz.f14.body.getD .skip) [resA]=some (.list 3 [fcA 2 3,fcA 2 6]):=by kernel_rfl
theorem xPK:OcOk Tryz.prog ITryz 14 (ptO [resA] (.list 3 [fcA 2 3,fcA 2 6])):=xG1 (xtX Tryz.func14 rfl (by kernel_rfl) xPx)
theorem xPJ:XF Tryz.prog EAd Tryz.f21 (Tryz.f21.body.getD .skip) [lA]=some (.list 1 [.int .i64 0,.int .i64 2,.int .i64 3,.int .i64 5,.int .i64 8]):=by kernel_rfl
theorem xQa:OcOk Tryz.prog ITryz 21 (ptO [lA] (.list 1 [.int .i64 0,.int .i64 2,.int .i64 3,.int .i64 5,.int .i64 8])):=xG1 (xtX Tryz.func21 rfl (by kernel_rfl) xPJ)
noncomputable def EAt:Env:=(((EAs.with 14 (ptO [lA] (.list 3 [fcA 0 8,fcA 2 3]))).with 14 (ptO [resA] (.list 3 [fcA 2 3,fcA 2 6]))).with 16 (ptO [lA] (.list 3 [fcA 0 8]))).with 21 (ptO [lA] (.list 1 [.int .i64 0,.int .i64 2,.int .i64 3,.int .i64 5,.int .i64 8]))
theorem xPN:OrcOk Tryz.prog ITryz EAt:=(((xLp.with xP0).with xPK).with xP1).with xQa
noncomputable def EAe:Env:={ Env.deep Tryz.prog mmA EAt 14 with pin:=0 }
theorem xPl:XF Tryz.prog EAe Tryz.f12 (Tryz.f12.body.getD .skip) []=some (.bool true):=by kernel_rfl
def xE6:List AV→Option (Bool×AV)
 | []=>some (true,.bool true)
 | _=>none
theorem xPk:OcOk Tryz.prog ITryz 12 xE6:=fun xs r h=>by
 unfold xE6 at h;split at h
 · simp only [Option.some.injEq,Prod.mk.injEq,true_and] at h;subst h
   have hd:=xsH mxTryz mmA (inv0Ok Tryz.prog 0) xPN (fun _=>rfl) 14
   exact xaH (p:=0) (xaL mxTryz (inv0Ok Tryz.prog _) rfl (xtO hd) Tryz.func12 rfl (by kernel_rfl) (xro fun _=>rfl) xPl)
 · simp at h
end Go.Sim.M
end
noncomputable section
namespace Go.Sim.M
open Go.IntKind (i64 u64 u8)
open Go.RowKit Go.Proofs
def EKA:Env:=EKR3.with 12 xE6
theorem xHU:OrcOk Tryz.prog ITryz EKA:=xPE.with xPk
end Go.Sim.M
end
noncomputable section
set_option maxRecDepth 100000
namespace Go.Sim.M
open Go.IntKind (i64 u64 u8)
open Go.RowKit Go.Proofs
def xlf:Env:=EKA.fn 23 0 (lsOf []) (lpsOf [])
theorem xCS:OrcOk Tryz.prog (ITryz.at 0) xlf:=xHU.fn
theorem xyl:LoOk Tryz.prog (ITryz.at xlf.pin) xlf (loopAt Tryz.f40 0):=xaq (by kernel_rfl)
def xkO {T:Type} (l:LA) (i:Int) (δ:T) (κl:(Int)→T) (κr:(Bool×(Bool)×(Unit))→T):T:=br (decide (i<l.length)) (br (decide (0≤i)&&decide (i<l.length)) (br (decide (i.toNat<l.length)&&hasSh1 (Sh.list 3) ((l.getD i.toNat .top).cells.getD 0 .top)) (br (decide ((↑((l.getD i.toNat .top).cells.getD 0 .top).toList.length:Int)>60)) (κr (true,(false),())) (κl (i64.wrap (i+1)))) δ) δ) (κr (false,false,()))
def xci (l:LA):(Int)→Option ((Int)⊕(Bool×(Bool)×(Unit))):=fun (i)=>xkO l i none (fun s=>some (.inl s)) (fun p=>some (.inr p))
def xiL (l:LA):(Int)→LA×List Box:=fun (i)=>([AV.list 3 l,AV.int .i64 i],[])
def xg1 (l:LA):(Bool×(Bool)×(Unit))→LR:=fun p=>(.node p.1 (.leaf .ret [AV.bool p.2.1] []) (.leaf (.exit 0) [.top] []))
abbrev xE1 (a:LA) (H:List Box):=XR Tryz.prog xlf [0,5] [4] [] (loopAt Tryz.f40 0) a H
theorem xEM (l:LA) (i:Int):Enc (encR (xiL l) (xg1 l)) (xci l i) (xE1 (xiL l i).1 (xiL l i).2):=by
 refine eV (xkO l i none (fun s=>some (encR (xiL l) (xg1 l) (.inl s))) (fun p=>some (encR (xiL l) (xg1 l) (.inr p)))) (by kernel_rfl) ?_;unfold xci xkO;repeat' first|exact eN|exact eS rfl|apply eB
def xt3:Lp:=lpOf [0,5] [4] [] (pCons (pList 3 pAny) (pCons (pInt .i64) pNil)) pNil fun (l,(i,_)) _=>((Iter (xci l) (i)).isSome,xg1 l ((Iter (xci l) (i)).getD (false,false,())))
theorem xCz:LoopOk Tryz.prog (ITryz.at xlf.pin) xlf.nt (loopAt Tryz.f40 0) xt3:=xaY fun b d e c=>by
 obtain ⟨l,⟨i,_⟩⟩:=b
 obtain ⟨a,rfl⟩:=Prod.mk.inj c
 exact xaG mxTryz (inv0Ok Tryz.prog _) rfl xCS xyl (xiL l) (xg1 l) (fun p=>by simp only [xg1,LR.eval];first|(simp;done)|(repeat' split<;>simp)) (xEM l) (s:=(i)) (xab a)
def xmr:Env:=EKA.fn 23 0 (lsOf []) (lpsOf [(4,xt3)])
theorem xD2:OrcOk Tryz.prog (ITryz.at 0) xmr:=xHU.fn
theorem xAE:LoOk Tryz.prog (ITryz.at xmr.pin) xmr (Tryz.f40.body.getD .skip):=xaP (ls:=[loopAt Tryz.f40 0]) (by kernel_rfl) (lkC xCz lkN)
def xrl {T:Type} (l:LA) (a:Int) (δ:T) (κ:Bool→T):T:=br (decide ((↑l.length:Int)>a)) (κ (false)) (br ((Iter (xci l) 0).isSome) (br (((Iter (xci l) 0).getD (false,false,())).fst) (κ (((Iter (xci l) 0).getD (false,false,())).snd.fst)) (κ (true))) δ)
def xlm (l:LA) (a:Int):Option (Bool):=xrl l a none some
theorem xI3 (l:LA) (a:Int):Enc (fun (p:Bool)=>((AV.bool p):AV)) (xlm l a) (XF Tryz.prog xmr Tryz.f40 (Tryz.f40.body.getD .skip) [AV.list 3 l,AV.int .i64 a]):=by
 refine eV (xrl l a none (fun (p:Bool)=>some ((AV.bool p):AV))) (by kernel_rfl) ?_;unfold xlm xrl;repeat' first|exact eN|exact eS rfl|apply eB
def xBA:LA→Option (Bool×AV):=ocOf (sCons (sList 3 pAny) (sCons (sEq (pInt .i64)) sNil)) fun (l,(a,_))=>((xlm l a).isSome,(AV.bool ((xlm l a).getD false)))
theorem xJh:OcOk Tryz.prog ITryz 40 (xBA):=xaN fun c g e=>by
 obtain ⟨l,⟨f,_⟩⟩:=c
 obtain ⟨a,b⟩:=Prod.mk.inj e
 refine xaH (p:=xmr.pin) (xaL mxTryz (inv0Ok Tryz.prog _) rfl xD2 Tryz.func40 rfl (by kernel_rfl) xAE ((xI3 _ _ _ (xab (d:=false) a)).trans ?_))
 exact congrArg some b
def xKy:Env:=EKA.with 40 xBA
theorem xHA:OrcOk Tryz.prog ITryz xKy:=xHU.with xJh
def xmO:Env:=xKy.fn 5 0 (lsOf []) (lpsOf [])
theorem xDd:OrcOk Tryz.prog (ITryz.at 0) xmO:=xHA.fn
theorem xA8:LoOk Tryz.prog (ITryz.at xmO.pin) xmO (Tryz.f11.body.getD .skip):=xaq (by kernel_rfl)
def xrh {T:Type} (l:LA) (δ:T) (κ:Bool→T):T:=br ((xlm l 24).isSome) (κ ((xlm l 24).getD false)) δ
def xiB (l:LA):Option (Bool):=xrh l none some
theorem xJo (l:LA):Enc (fun (p:Bool)=>((AV.bool p):AV)) (xiB l) (XF Tryz.prog xmO Tryz.f11 (Tryz.f11.body.getD .skip) [AV.list 3 l]):=by
 refine eV (xrh l none (fun (p:Bool)=>some ((AV.bool p):AV))) (by kernel_rfl) ?_;unfold xiB xrh;repeat' first|exact eN|exact eS rfl|apply eB
def xBE:LA→Option (Bool×AV):=ocOf (sCons (sList 3 pAny) sNil) fun (l,_)=>((xiB l).isSome,(AV.bool ((xiB l).getD false)))
theorem xJk:OcOk Tryz.prog ITryz 11 (xBE):=xaN fun c f e=>by
 obtain ⟨l,_⟩:=c
 obtain ⟨a,b⟩:=Prod.mk.inj e
 refine xaH (p:=xmO.pin) (xaL mxTryz (inv0Ok Tryz.prog _) rfl xDd Tryz.func11 rfl (by kernel_rfl) xA8 ((xJo _ _ (xab (d:=false) a)).trans ?_))
 exact congrArg some b
def xOq:Env:=xKy.with 11 xBE
theorem xOl:OrcOk Tryz.prog ITryz xOq:=xHA.with xJk
abbrev xOD:Env:=xOq
theorem xN0:OrcOk Tryz.prog ITryz xOD:=xOl
abbrev xOK:Env:=xOD
theorem xNL:OrcOk Tryz.prog ITryz xOK:=xN0
def xfK:Env:=xOK.fn 41 0 (lsOf []) (lpsOf [])
theorem xsW:OrcOk Tryz.prog (ITryz.at 0) xfK:=xNL.fn
theorem xst:LoOk Tryz.prog (ITryz.at xfK.pin) xfK (Tryz.f9.body.getD .skip):=xaq (by kernel_rfl)
def xit {T:Type} (a b:LA) (δ:T) (κ:Bool→T):T:=br ((xiB a).isSome) (br (!(xiB a).getD false) (κ (true)) (br ((xiB b).isSome) (br (!(xiB b).getD false) (κ (true)) (br ((xcH a b).isSome) (br ((xjT a b).isSome) (br ((xcH a b).getD false==(xjT a b).getD false) (br ((xa6 a).isSome) (br ((xcH a ((xa6 a).getD [])).isSome) (br ((xcH a ((xa6 a).getD [])).getD false) (br ((xcH a b).isSome) (br ((xa6 a).isSome) (br ((xa6 b).isSome) (br ((xdp ((xa6 a).getD []) ((xa6 b).getD [])).isSome) (br ((xcH a b).getD false==(xdp ((xa6 a).getD []) ((xa6 b).getD [])).getD false) (κ (true)) (κ (false))) δ) δ) δ) δ) (κ (false))) δ) δ) (κ (false))) δ) δ)) δ)) δ
def xei (a b:LA):Option (Bool):=xit a b none some
theorem xwk (a b:LA):Enc (fun (p:Bool)=>((AV.bool p):AV)) (xei a b) (XF Tryz.prog xfK Tryz.f9 (Tryz.f9.body.getD .skip) [AV.list 3 a,AV.list 3 b]):=by
 refine eV (xit a b none (fun (p:Bool)=>some ((AV.bool p):AV))) (by kernel_rfl) ?_;unfold xei xit;repeat' first|exact eN|exact eS rfl|apply eB
def xwA:LA→Option (Bool×AV):=ocOf (sCons (sList 3 pAny) (sCons (sList 3 pAny) sNil)) fun (a,(b,_))=>((xei a b).isSome,(AV.bool ((xei a b).getD false)))
theorem xwa:OcOk Tryz.prog ITryz 9 (xwA):=xaN fun f h g=>by
 obtain ⟨a,⟨b,_⟩⟩:=f
 obtain ⟨c,e⟩:=Prod.mk.inj g
 refine xaH (p:=xfK.pin) (xaL mxTryz (inv0Ok Tryz.prog _) rfl xsW Tryz.func9 rfl (by kernel_rfl) xst ((xwk _ _ _ (xab (d:=false) c)).trans ?_))
 exact congrArg some e
end Go.Sim.M
end
