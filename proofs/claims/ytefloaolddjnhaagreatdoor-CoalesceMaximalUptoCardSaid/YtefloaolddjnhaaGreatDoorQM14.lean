/- Part 14 of the proof: SrtE, E1, KP1, KP2, Lset, KP3, KP4, KP5, KV, KQ, KR1, KJ, KR2, KR3, Awz, KA, KL. -/
import Derived.Test.YtefloaolddjnhaaGreatDoorQM13
import Derived.StillTailTactics
set_option linter.unusedVariables false
set_option linter.unusedSimpArgs false
set_option linter.unnecessarySimpa false
set_option linter.unusedSectionVars false
noncomputable section
set_option maxRecDepth 100000
namespace Go.Sim.M
def cmpI (x y:Int):Int:=if x<y then -1 else if y<x then 1 else 0
def orI (x y:Int):Int:=if x=0 then y else x
end Go.Sim.M
namespace Go.Proofs
open Go.RowKit Go.Sim Go.Sim.M Go.Sort Go.Lib
theorem Tryz.cmp_walk (x y:Int) (w:World):Calls Tryz.prog 54 #[.int .i64 x,.int .i64 y] w fun e w'=>e=.returned (.int .i64 (cmpI x y))∧w'=w:=by
 unfold cmpI
 go_enter Tryz.func54,Tryz.ntmps54
 go_wp2
 all_goals (go_ret;exact ⟨rfl,rfl⟩)
theorem Tryz.or_walk (x y:Int) (b off c:Nat) (w:World) (h0:w.cell? ⟨b,off,none⟩=some (.int .i64 x)) (h1:w.cell? ⟨b,off+1,none⟩=some (.int .i64 y)):Calls Tryz.prog 71 #[.slice (some ⟨b,off,none⟩) 2 c] w fun e w'=>e=.returned (.int .i64 (orI x y))∧w'=w:=by
 unfold orI
 by_cases hx:x=0
 · subst hx
   rw [if_pos rfl]
   by_cases hy:y=0
   · subst hy
     go_enter Tryz.func71,Tryz.ntmps71
     go_wp2
     refine wp_loop_rounds 3 ?_
     rw [rounds_succ]
     go_wp2
     rw [rounds_succ]
     go_wp2
     rw [rounds_succ]
     go_wp2
     go_ret
     exact ⟨rfl,rfl⟩
   · have hy':(y != 0)=true:=by simpa using hy
     go_enter Tryz.func71,Tryz.ntmps71
     go_wp2
     refine wp_loop_rounds 3 ?_
     rw [rounds_succ]
     go_wp2
     rw [rounds_succ]
     go_wp2
     go_ret
     exact ⟨rfl,rfl⟩
 · have hx':(x != 0)=true:=by simpa using hx
   rw [if_neg hx]
   go_enter Tryz.func71,Tryz.ntmps71
   go_wp2
   refine wp_loop_rounds 3 ?_
   rw [rounds_succ]
   go_wp2
   go_ret
   exact ⟨rfl,rfl⟩
theorem fill2I (u1 u2:Int):Instr.fill (fun i=>some (i*1,1)) ((Array.range (2*1)).map (fun x=>(Value.int .i64 0).cells[x % (Value.int .i64 0).cells.size]!)) [(0,.int .i64 u1),(1,.int .i64 u2)]=some #[.int .i64 u1,.int .i64 u2]:=by
 simp [Instr.fill,Array.range,Value.cells]
 apply Array.ext
 · simp
 · intro i h1 h2
   rcases i with _|_|i
   · simp
   · simp
   · simp at h2;omega
set_option maxHeartbeats 2000000 in
theorem Tryz.levels2_walk (a b c d:Int) (w:World):Calls Tryz.prog 70 #[.agg #[.int .i64 a,.int .i64 b],.agg #[.int .i64 c,.int .i64 d]] w fun e w'=>e=.returned (.int .i64 (orI (cmpI a c) (cmpI b d)))∧∃ q os',w'=Sort.grow (w.drewN q) os':=by
 go_enter Tryz.func70,Tryz.ntmps70
 go_wp2_with (go_at_call 54;skip)
 have g0:(w.alloc (.cells #[.int .i64 a,.int .i64 b] 31)).heap[w.heap.size]?=some (.cells #[.int .i64 a,.int .i64 b] 31 (0,0)):=heap_alloc_new w _
 have g1:((w.alloc (.cells #[.int .i64 a,.int .i64 b] 31)).alloc (.cells #[.int .i64 c,.int .i64 d] 31)).heap[w.heap.size+1]?=some (.cells #[.int .i64 c,.int .i64 d] 31 (0,0)):=by
  have:=heap_alloc_new (w.alloc (.cells #[.int .i64 a,.int .i64 b] 31)) (.cells #[.int .i64 c,.int .i64 d] 31)
  have e:(w.alloc (.cells #[.int .i64 a,.int .i64 b] 31)).heap.size=w.heap.size+1:=by simp
  rwa [e] at this
 have f0:((w.alloc (.cells #[.int .i64 a,.int .i64 b] 31)).alloc (.cells #[.int .i64 c,.int .i64 d] 31)).cell? ⟨w.heap.size,0,none⟩=some (.int .i64 a):=by
  rw [World.cell?_alloc_past _ _ _ (by simp)];simp only [World.cell?,g0];rfl
 have f1:((w.alloc (.cells #[.int .i64 a,.int .i64 b] 31)).alloc (.cells #[.int .i64 c,.int .i64 d] 31)).cell? ⟨w.heap.size,1,none⟩=some (.int .i64 b):=by
  rw [World.cell?_alloc_past _ _ _ (by simp)];simp only [World.cell?,g0];rfl
 have f2:((w.alloc (.cells #[.int .i64 a,.int .i64 b] 31)).alloc (.cells #[.int .i64 c,.int .i64 d] 31)).cell? ⟨w.heap.size+1,0,none⟩=some (.int .i64 c):=by
  simp only [World.cell?,g1];rfl
 have f3:((w.alloc (.cells #[.int .i64 a,.int .i64 b] 31)).alloc (.cells #[.int .i64 c,.int .i64 d] 31)).cell? ⟨w.heap.size+1,1,none⟩=some (.int .i64 d):=by
  simp only [World.cell?,g1];rfl
 have f4:∃ q os',((w.alloc (.cells #[.int .i64 a,.int .i64 b] 31)).alloc (.cells #[.int .i64 c,.int .i64 d] 31))=Sort.grow (w.drewN q) os':=⟨0,_,by rw [alloc_eq_grow,alloc_eq_grow,grow_grow];rfl⟩
 generalize ((w.alloc (.cells #[.int .i64 a,.int .i64 b] 31)).alloc (.cells #[.int .i64 c,.int .i64 d] 31))=W2 at f0 f1 f2 f3 f4 ⊢
 refine wp_region_still_tail 10 (by kernel_rfl) (by kernel_rfl) ?_
 simp only [List.take_succ_cons,List.take_zero,List.drop_succ_cons,List.drop_zero]
 change wpStill _ _ (World.drew W2) _ _ _
 have f0':W2.drew.cell? ⟨w.heap.size,0,none⟩=some (.int .i64 a):=f0
 have f1':W2.drew.cell? ⟨w.heap.size,1,none⟩=some (.int .i64 b):=f1
 have f2':W2.drew.cell? ⟨w.heap.size+1,0,none⟩=some (.int .i64 c):=f2
 have f3':W2.drew.cell? ⟨w.heap.size+1,1,none⟩=some (.int .i64 d):=f3
 have f4':∃ q os',W2.drew=Sort.grow (w.drewN q) os':=by obtain ⟨q,os',e⟩:=f4;exact ⟨q+1,os',by rw [e];rfl⟩
 iterate 4 still_step
 still_call (Tryz.cmp_walk _ _ _)
 iterate 4 still_step
 still_call (Tryz.cmp_walk _ _ _)
 refine wpStill_nil ?_
 change wpList _ _ _ _ _ (World.drew W2)
 generalize World.drew W2=W at f0' f1' f2' f3' f4' ⊢
 generalize hu1:cmpI a c=u1
 generalize hu2:cmpI b d=u2
 obtain ⟨ie,q1,q2,q3⟩:∃ ie,Tryz.prog.info? 3=some ie∧ie.zero=some (.int .i64 0)∧ie.size=1:=⟨(Tryz.prog.info? 3).get (by kernel_rfl),(Option.some_get _).symm,by kernel_rfl,by kernel_rfl⟩
 refine wpList_buildSlice rfl 28 3 2 _ rfl #[.int .i64 u1,.int .i64 u2] ie (.int .i64 0) (by kernel_rfl) q1 q2 (by rw [q3];decide) (by rw [q3];decide) (by rw [q3];refine Eq.trans (congrArg _ ?_) (fill2I u1 u2);simp [Act.eval]) ?_
 simp only [Act.put]
 go_wp2_with fail
 have g2:(W.alloc (.cells #[.int .i64 u1,.int .i64 u2] 3)).heap[W.heap.size]?=some (.cells #[.int .i64 u1,.int .i64 u2] 3 (0,0)):=heap_alloc_new W _
 refine (Tryz.or_walk u1 u2 W.heap.size 0 2 (W.alloc (.cells #[.int .i64 u1,.int .i64 u2] 3)) (by simp only [World.cell?,g2];rfl) (by simp only [World.cell?,g2];rfl)).mono ?_
 rintro e w' ⟨rfl,rfl⟩
 go_wp2
 go_ret
 obtain ⟨q,os',hq⟩:=f4'
 exact ⟨by rw [hu1,hu2];rfl,q,_,by rw [hq,alloc_eq_grow,grow_grow]⟩
end Go.Proofs
namespace Go.Sim.M
abbrev TyE:Type:=Fin 1099511627777×Int×Int
def intsE (x:TyE):List Int:=[(x.1.val:Int),x.2.1,x.2.2]
def cmpE (x y:TyE):Int:=(x.1.val:Int) - (y.1.val:Int)
end Go.Sim.M
namespace Go.Proofs
open Go.RowKit Go.Sim Go.Sim.M Go.Sort
set_option maxHeartbeats 1000000 in
theorem Tryz.walkE (a b c a' b' c' r:Int) (hr:IntKind.i64.wrap (a - a')=r) (W:World):Calls Tryz.prog 130 #[.agg #[.int .i64 a,.int .i64 b,.int .i64 c],.agg #[.int .i64 a',.int .i64 b',.int .i64 c']] W fun e w'=>e=.returned (.int .i64 r)∧∃ q os',w'=Sort.grow (W.drewN q) os':=by
 go_enter Tryz.func130,Tryz.ntmps130
 go_wp2
 go_ret
 subst hr
 exact ⟨rfl,0,_,by rw [alloc_eq_grow,alloc_eq_grow,grow_grow];rfl⟩
end Go.Proofs
namespace Go.Sim.M
open Go.RowKit Go.Proofs Go.Sort
def isE:AV→Bool
 | .agg [.int .i64 a,.int .i64 _,.int .i64 _]=>decide (0≤a)&&decide (a≤1099511627776)
 | _=>false
def decE:AV→TyE
 | .agg [.int _ a,.int _ b,.int _ c]=>(Fin.ofNat 1099511627777 a.toNat,b,c)
 | _=>default
noncomputable def srtE (xs:List AV):List AV:=(pdqL cmpE (xs.map decE)).map (encI intsE)
theorem xDD {x:AV} (h:isE x=true):encI intsE (decE x)=x:=by
 unfold isE at h
 split at h
 · rename_i a b c
   simp only [Bool.and_eq_true,decide_eq_true_eq] at h
   have:a.toNat % 1099511627777=a.toNat:=Nat.mod_eq_of_lt (by omega)
   simp only [decE,encI,intsE,List.map_cons,List.map_nil,Fin.ofNat,this,Int.toNat_of_nonneg h.1]
 · simp at h
theorem xAM {xs:List AV} (h:xs.all isE=true):(xs.map decE).map (encI intsE)=xs:=by
 rw [List.map_map]
 conv=>rhs;rw [←List.map_id xs]
 refine List.map_congr_left fun x hx=>?_
 exact xDD (List.all_eq_true.1 h x hx)
theorem ltE (x y:TyE):ltOf cmpE x y=decide (x.1.val<y.1.val):=by
 unfold ltOf cmpE
 by_cases h:x.1.val<y.1.val
 · rw [decide_eq_true h,decide_eq_true (by omega)]
 · rw [decide_eq_false h,decide_eq_false (by omega)]
theorem swoE:SWO (ltOf cmpE) where
 irrefl x:=by rw [ltE];simp
 trans x y z h1 h2:=by rw [ltE] at *;simp at *;omega
 ntrans x y z h1 h2:=by rw [ltE] at *;simp at *;omega
noncomputable def xt5:List AV→List Box→Option (Bool×AV×List Box)
 | [.osl (.b 0) ver 0 n,.func g []],[⟨ver',3,ty,xs,false,true⟩]=>match Nat.beq g 130&&Nat.beq ty 117 with
  | true=>some (Nat.beq ver ver'&&(Nat.beq n xs.length&&(decide (n<4611686018427387904)&&xs.all isE)),.tuple [],[⟨ver',3,117,srtE xs,false,true⟩])
  | false=>none
 | _,_=>none
theorem xEO:OmOk Tryz.prog ITryz 129 xt5:=fun ass H r H' h=>by
 unfold xt5 at h
 split at h
 · rename_i ver n g ver' ty xs
   split at h
   case h_2=>simp at h
   rename_i hg
   simp only [Bool.and_eq_true] at hg
   obtain rfl:=Nat.eq_of_beq_eq_true hg.1
   obtain rfl:=Nat.eq_of_beq_eq_true hg.2
   simp only [Option.some.injEq,Prod.mk.injEq,Bool.and_eq_true,decide_eq_true_eq] at h
   obtain ⟨⟨h1,h2,h3,h4⟩,rfl,rfl⟩:=h
   obtain rfl:=Nat.eq_of_beq_eq_true h1
   obtain rfl:=Nat.eq_of_beq_eq_true h2
   have hti:∃ ti,tinfo Tryz.prog 117=some ti∧ti.sz=3∧ti.agg=true:=by
    have h:(match tinfo Tryz.prog 117 with|some ti=>(ti.sz==3)&&ti.agg|none=>false)=true:=by kernel_rfl
    split at h
    · rename_i ti hti
      simp only [Bool.and_eq_true,beq_iff_eq] at h
      exact ⟨ti,hti,h.1,h.2⟩
    · simp at h
   obtain ⟨ti,hti,hz,ha⟩:=hti
   have hgd:=xmM (P:=Tryz.prog) (Inv:=ITryz) Tryz.srl129 3 (by decide) (fun w=>by rw [←ha];exact xjo hti w) (fun w=>by rw [←hz];exact xdX hti w)
    intsE (fun _=>rfl) cmpE swoE 130 (xdA Tryz.func129 rfl (by kernel_rfl)) (xiH (xdA Tryz.func130 rfl (by kernel_rfl)))
    (fun x y W=>Tryz.walkE _ _ _ _ _ _ (cmpE x y) (by
     have:=x.1.isLt
     have:=y.1.isLt
     unfold cmpE
     exact xem (by omega) (by omega)) W)
    ver 117 rfl (xs.map decE) (by simpa using h3)
   rw [List.length_map,xAM h4] at hgd
   exact hgd
 · simp at h
end Go.Sim.M
namespace Go.Sim.M
abbrev TyS:Type:=Fin 1099511627777×Int
def intsS (x:TyS):List Int:=[(x.1.val:Int),x.2]
def cmpS (x y:TyS):Int:=(x.1.val:Int) - (y.1.val:Int)
end Go.Sim.M
namespace Go.Proofs
open Go.RowKit Go.Sim Go.Sim.M Go.Sort
set_option maxHeartbeats 1000000 in
theorem Tryz.walkS (a b a' b' r:Int) (hr:IntKind.i64.wrap (a - a')=r) (W:World):Calls Tryz.prog 96 #[.agg #[.int .i64 a,.int .i64 b],.agg #[.int .i64 a',.int .i64 b']] W fun e w'=>e=.returned (.int .i64 r)∧∃ q os',w'=Sort.grow (W.drewN q) os':=by
 go_enter Tryz.func96,Tryz.ntmps96
 go_wp2
 go_ret
 subst hr
 exact ⟨rfl,0,_,by rw [alloc_eq_grow,alloc_eq_grow,grow_grow];rfl⟩
end Go.Proofs
namespace Go.Sim.M
open Go.RowKit Go.Proofs Go.Sort
def isS:AV→Bool
 | .agg [.int .i64 a,.int .i64 _]=>decide (0≤a)&&decide (a≤1099511627776)
 | _=>false
def decS:AV→TyS
 | .agg [.int _ a,.int _ b]=>(Fin.ofNat 1099511627777 a.toNat,b)
 | _=>default
noncomputable def srtS (xs:List AV):List AV:=(pdqL cmpS (xs.map decS)).map (encI intsS)
theorem xDL {x:AV} (h:isS x=true):encI intsS (decS x)=x:=by
 unfold isS at h
 split at h
 · rename_i a b
   simp only [Bool.and_eq_true,decide_eq_true_eq] at h
   have:a.toNat % 1099511627777=a.toNat:=Nat.mod_eq_of_lt (by omega)
   simp only [decS,encI,intsS,List.map_cons,List.map_nil,Fin.ofNat,this,Int.toNat_of_nonneg h.1]
 · simp at h
theorem xAI {xs:List AV} (h:xs.all isS=true):(xs.map decS).map (encI intsS)=xs:=by
 rw [List.map_map]
 conv=>rhs;rw [←List.map_id xs]
 refine List.map_congr_left fun x hx=>?_
 exact xDL (List.all_eq_true.1 h x hx)
theorem ltS (x y:TyS):ltOf cmpS x y=decide (x.1.val<y.1.val):=by
 unfold ltOf cmpS
 by_cases h:x.1.val<y.1.val
 · rw [decide_eq_true h,decide_eq_true (by omega)]
 · rw [decide_eq_false h,decide_eq_false (by omega)]
theorem swoS:SWO (ltOf cmpS) where
 irrefl x:=by rw [ltS];simp
 trans x y z h1 h2:=by rw [ltS] at *;simp at *;omega
 ntrans x y z h1 h2:=by rw [ltS] at *;simp at *;omega
noncomputable def xuA:List AV→List Box→Option (Bool×AV×List Box)
 | [.osl (.b 0) ver 0 n,.func g []],[⟨ver',2,ty,xs,false,true⟩]=>match Nat.beq g 96&&Nat.beq ty 75 with
  | true=>some (Nat.beq ver ver'&&(Nat.beq n xs.length&&(decide (n<4611686018427387904)&&xs.all isS)),.tuple [],[⟨ver',2,75,srtS xs,false,true⟩])
  | false=>none
 | _,_=>none
theorem xED:OmOk Tryz.prog ITryz 95 xuA:=fun ass H r H' h=>by
 unfold xuA at h
 split at h
 · rename_i ver n g ver' ty xs
   split at h
   case h_2=>simp at h
   rename_i hg
   simp only [Bool.and_eq_true] at hg
   obtain rfl:=Nat.eq_of_beq_eq_true hg.1
   obtain rfl:=Nat.eq_of_beq_eq_true hg.2
   simp only [Option.some.injEq,Prod.mk.injEq,Bool.and_eq_true,decide_eq_true_eq] at h
   obtain ⟨⟨h1,h2,h3,h4⟩,rfl,rfl⟩:=h
   obtain rfl:=Nat.eq_of_beq_eq_true h1
   obtain rfl:=Nat.eq_of_beq_eq_true h2
   have hti:∃ ti,tinfo Tryz.prog 75=some ti∧ti.sz=2∧ti.agg=true:=by
    have h:(match tinfo Tryz.prog 75 with|some ti=>(ti.sz==2)&&ti.agg|none=>false)=true:=by kernel_rfl
    split at h
    · rename_i ti hti
      simp only [Bool.and_eq_true,beq_iff_eq] at h
      exact ⟨ti,hti,h.1,h.2⟩
    · simp at h
   obtain ⟨ti,hti,hz,ha⟩:=hti
   have hgd:=xmM (P:=Tryz.prog) (Inv:=ITryz) Tryz.srl95 2 (by decide) (fun w=>by rw [←ha];exact xjo hti w) (fun w=>by rw [←hz];exact xdX hti w)
    intsS (fun _=>rfl) cmpS swoS 96 (xdA Tryz.func95 rfl (by kernel_rfl)) (xiH (xdA Tryz.func96 rfl (by kernel_rfl)))
    (fun x y W=>Tryz.walkS _ _ _ _ (cmpS x y) (by
     have:=x.1.isLt
     have:=y.1.isLt
     unfold cmpS
     exact xem (by omega) (by omega)) W)
    ver 75 rfl (xs.map decS) (by simpa using h3)
   rw [List.length_map,xAI h4] at hgd
   exact hgd
 · simp at h
end Go.Sim.M
namespace Go.Sim.M
abbrev TyP:Type:=Int×Int
def intsP (x:TyP):List Int:=[x.1,x.2]
def cmpP (x y:TyP):Int:=orI (cmpI x.1 y.1) (cmpI x.2 y.2)
end Go.Sim.M
namespace Go.Sim.M
open Go.RowKit Go.Proofs Go.Sort
def isP:AV→Bool
 | .agg [.int .i64 _,.int .i64 _]=>true
 | _=>false
def decP:AV→TyP
 | .agg [.int _ a,.int _ b]=>(a,b)
 | _=>default
noncomputable def srtP (xs:List AV):List AV:=(pdqL cmpP (xs.map decP)).map (encI intsP)
theorem xDn {x:AV} (h:isP x=true):encI intsP (decP x)=x:=by
 unfold isP at h
 split at h
 · rfl
 · simp at h
theorem xBH {xs:List AV} (h:xs.all isP=true):(xs.map decP).map (encI intsP)=xs:=by
 rw [List.map_map]
 conv=>rhs;rw [←List.map_id xs]
 refine List.map_congr_left fun x hx=>?_
 exact xDn (List.all_eq_true.1 h x hx)
theorem ltP (x y:TyP):ltOf cmpP x y=decide (x.1<y.1∨x.1=y.1∧x.2<y.2):=by
 unfold ltOf cmpP orI cmpI
 by_cases h:x.1<y.1∨x.1=y.1∧x.2<y.2
 · rw [decide_eq_true h]
   simp only [decide_eq_true_eq]
   rcases h with h|⟨h,h'⟩
   · simp [h]
   · simp [h,h']
 · rw [decide_eq_false h]
   simp only [decide_eq_false_iff_not]
   have h1:¬ x.1<y.1:=fun e=>h (.inl e)
   by_cases h2:y.1<x.1
   · simp [h1,h2]
   · have h3:x.1=y.1:=by omega
     have h4:¬ x.2<y.2:=fun e=>h (.inr ⟨h3,e⟩)
     by_cases h5:y.2<x.2
     · simp [h1,h2,h4,h5]
     · simp [h1,h2,h4,h5]
theorem swoP:SWO (ltOf cmpP) where
 irrefl x:=by rw [ltP];simp
 trans x y z h1 h2:=by rw [ltP] at *;simp only [decide_eq_true_eq] at *;omega
 ntrans x y z h1 h2:=by rw [ltP] at *;simp only [decide_eq_true_eq,decide_eq_false_iff_not] at *;omega
noncomputable def xt0:List AV→List Box→Option (Bool×AV×List Box)
 | [.osl (.b 0) ver 0 n,.func g []],[⟨ver',2,ty,xs,false,true⟩]=>match Nat.beq g 70&&Nat.beq ty 31 with
  | true=>some (Nat.beq ver ver'&&(Nat.beq n xs.length&&(decide (n<4611686018427387904)&&xs.all isP)),.tuple [],[⟨ver',2,31,srtP xs,false,true⟩])
  | false=>none
 | _,_=>none
theorem xFb:OmOk Tryz.prog ITryz 69 xt0:=fun ass H r H' h=>by
 unfold xt0 at h
 split at h
 · rename_i ver n g ver' ty xs
   split at h
   case h_2=>simp at h
   rename_i hg
   simp only [Bool.and_eq_true] at hg
   obtain rfl:=Nat.eq_of_beq_eq_true hg.1
   obtain rfl:=Nat.eq_of_beq_eq_true hg.2
   simp only [Option.some.injEq,Prod.mk.injEq,Bool.and_eq_true,decide_eq_true_eq] at h
   obtain ⟨⟨h1,h2,h3,h4⟩,rfl,rfl⟩:=h
   obtain rfl:=Nat.eq_of_beq_eq_true h1
   obtain rfl:=Nat.eq_of_beq_eq_true h2
   have hti:∃ ti,tinfo Tryz.prog 31=some ti∧ti.sz=2∧ti.agg=true:=by
    have h:(match tinfo Tryz.prog 31 with|some ti=>(ti.sz==2)&&ti.agg|none=>false)=true:=by kernel_rfl
    split at h
    · rename_i ti hti
      simp only [Bool.and_eq_true,beq_iff_eq] at h
      exact ⟨ti,hti,h.1,h.2⟩
    · simp at h
   obtain ⟨ti,hti,hz,ha⟩:=hti
   have hgd:=xmM (P:=Tryz.prog) (Inv:=ITryz) Tryz.srl69 2 (by decide) (fun w=>by rw [←ha];exact xjo hti w) (fun w=>by rw [←hz];exact xdX hti w)
    intsP (fun _=>rfl) cmpP swoP 70 (xdA Tryz.func69 rfl (by kernel_rfl)) (xiH (xdA Tryz.func70 rfl (by kernel_rfl)))
    (fun x y W=>Tryz.levels2_walk _ _ _ _ W)
    ver 31 rfl (xs.map decP) (by simpa using h3)
   rw [List.length_map,xBH h4] at hgd
   exact hgd
 · simp at h
end Go.Sim.M
namespace Go.Sim.M
open Go.RowKit Go.Proofs Go.Sort
def isI:AV→Bool
 | .int .i64 _=>true
 | _=>false
noncomputable def srtI (xs:List AV):List AV:=(pdqL cmpI (xs.map AV.toInt)).map (AV.int .i64)
theorem xB7 {xs:List AV} (h:xs.all isI=true):(xs.map AV.toInt).map (AV.int .i64)=xs:=by
 rw [List.map_map]
 conv=>rhs;rw [←List.map_id xs]
 refine List.map_congr_left fun x hx=>?_
 have:=List.all_eq_true.1 h x hx
 unfold isI at this
 split at this
 · rfl
 · simp at this
theorem ltI (x y:Int):ltOf cmpI x y=decide (x<y):=by
 unfold ltOf cmpI
 by_cases h:x<y
 · simp [h]
 · by_cases h2:y<x<;>simp [h,h2]
theorem swoI:SWO (ltOf cmpI) where
 irrefl x:=by rw [ltI];simp
 trans x y z h1 h2:=by rw [ltI] at *;simp at *;omega
 ntrans x y z h1 h2:=by rw [ltI] at *;simp at *;omega
noncomputable def xuv:List AV→List Box→Option (Bool×AV×List Box)
 | [.osl (.b 0) ver 0 n,.func g []],[⟨ver',1,ty,xs,false,true⟩]=>match Nat.beq g 54&&Nat.beq ty 3 with
  | true=>some (Nat.beq ver ver'&&(Nat.beq n xs.length&&(decide (n<4611686018427387904)&&xs.all isI)),.tuple [],[⟨ver',1,3,srtI xs,false,true⟩])
  | false=>none
 | _,_=>none
theorem xE8:OmOk Tryz.prog ITryz 53 xuv:=fun ass H r H' h=>by
 unfold xuv at h
 split at h
 · rename_i ver n g ver' ty xs
   split at h
   case h_2=>simp at h
   rename_i hg
   simp only [Bool.and_eq_true] at hg
   obtain rfl:=Nat.eq_of_beq_eq_true hg.1
   obtain rfl:=Nat.eq_of_beq_eq_true hg.2
   simp only [Option.some.injEq,Prod.mk.injEq,Bool.and_eq_true,decide_eq_true_eq] at h
   obtain ⟨⟨h1,h2,h3,h4⟩,rfl,rfl⟩:=h
   obtain rfl:=Nat.eq_of_beq_eq_true h1
   obtain rfl:=Nat.eq_of_beq_eq_true h2
   have hgd:=xuf (P:=Tryz.prog) (Inv:=ITryz) Tryz.srl53 cmpI swoI 54 (xdA Tryz.func53 rfl (by kernel_rfl)) (xiH (xdA Tryz.func54 rfl (by kernel_rfl)))
    (fun x y W=>(Tryz.cmp_walk x y W).mono fun e w' ⟨h1,h2⟩=>⟨h1,0,#[],by rw [h2];exact (grow_empty _).symm⟩)
    ver 3 rfl (xs.map AV.toInt) (by simpa using h3)
   rw [List.length_map,xB7 h4] at hgd
   exact hgd
 · simp at h
end Go.Sim.M
end
noncomputable section
namespace Go.Sim.M
open Go.RowKit Go.Proofs
noncomputable def E1:Env:=(((EKG.withM 129 xt5).withM 95 xuA).withM 69 xt0).withM 53 xuv
theorem xD1:OrcOk Tryz.prog ITryz E1:=(((xFB.withM xEO).withM xED).withM xFb).withM xE8
end Go.Sim.M
end
noncomputable section
set_option maxRecDepth 100000
namespace Go.Sim.M
open Go.IntKind (i64 u64 u8)
open Go.RowKit Go.Proofs
def xiR:Env:=E1.fn 29 1 (lsOf []) (lpsOf [])
theorem xtv:OrcOk Tryz.prog (ITryz.at 1) xiR:=xD1.fn
theorem xry:LoOk Tryz.prog (ITryz.at xiR.pin) xiR (Tryz.f97.body.getD .skip):=xaH (by kernel_rfl)
def xoL {T:Type} (k:Nat) (b n:Int) (a:LA) (δ:T) (κ:Bool×(Nat×LA)×(Nat×LA)→T):T:=br (decide ((↑k:Int)>0)) (br (decide (0≤i64.wrap ((↑k:Int) - 1))&&decide (i64.wrap ((↑k:Int) - 1)<(↑k:Int))) (br (decide (0+(i64.wrap ((↑k:Int) - 1)).toNat<a.length)&&hasSh1 (Sh.int .i64) ((a.getD (0+(i64.wrap ((↑k:Int) - 1)).toNat) .top).cells.getD 1 .top)) (br (((a.getD (0+(i64.wrap ((↑k:Int) - 1)).toNat) .top).cells.getD 1 .top).toInt==n) (κ (true,(k,a),(0,[]))) (br (k==a.length&&(decide ((k+1)*16≤140737488355328)&&decide (k+1≤4611686018427387904))) (κ (false,(0,[]),(k+1,a++[AV.agg [AV.int .i64 b,AV.int .i64 n]]))) δ)) δ) δ) (br (k==a.length&&(decide ((k+1)*16≤140737488355328)&&decide (k+1≤4611686018427387904))) (κ (false,(0,[]),(k+1,a++[AV.agg [AV.int .i64 b,AV.int .i64 n]]))) δ)
def xd4 (k:Nat) (a n:Int) (b:LA):Option (Bool×(Nat×LA)×(Nat×LA)):=xoL k a n b none some
theorem xya (k:Nat) (a n:Int) (xs:LA):Enc (fun (p:Bool×(Nat×LA)×(Nat×LA))=>((br p.1 ((AV.osl 0 0 0 p.2.1.1,([⟨0,2,75,p.2.1.2,false,true⟩]:List Box))) ((AV.osl 0 1 0 p.2.2.1,([⟨1,2,75,p.2.2.2,false,true⟩]:List Box)))):(AV×List Box))) (xd4 k a n xs) (XFM Tryz.prog xiR Tryz.f97 (Tryz.f97.body.getD .skip) [AV.osl (0:Id) 0 0 k,AV.int .i64 a,AV.int .i64 n] [{ ver:=0,sz:=2,ty:=(75:TypeId),xs:=xs,frz:=false,pm:=true }]):=by
 refine eV (xoL k a n xs none (fun (p:Bool×(Nat×LA)×(Nat×LA))=>some ((br p.1 ((AV.osl 0 0 0 p.2.1.1,([⟨0,2,75,p.2.1.2,false,true⟩]:List Box))) ((AV.osl 0 1 0 p.2.2.1,([⟨1,2,75,p.2.2.2,false,true⟩]:List Box)))):(AV×List Box)))) (by kernel_rfl) ?_;unfold xd4 xoL;repeat' first|exact eN|exact eS rfl|apply eB
def xsb:LA→List Box→Option (Bool×AV×List Box):=omOf (sCons (sEq (pOsl 0 0 0)) (sCons (sEq (pInt .i64)) (sCons (sEq (pInt .i64)) sNil))) (pCons (pBox 0 2 (75:TypeId) false true pAny) pNil) fun (k,(a,(n,_))) (b,_)=>((xd4 k a n b).isSome,(AV.osl 0 1 0 (br ((xd4 k a n b).getD (false,(0,[]),(0,[]))).1 ((xd4 k a n b).getD (false,(0,[]),(0,[]))).2.1.1 ((xd4 k a n b).getD (false,(0,[]),(0,[]))).2.2.1),([⟨1,2,75,(br ((xd4 k a n b).getD (false,(0,[]),(0,[]))).1 ((xd4 k a n b).getD (false,(0,[]),(0,[]))).2.1.2 ((xd4 k a n b).getD (false,(0,[]),(0,[]))).2.2.2),false,true⟩]:List Box)))
theorem xyr:OmOk Tryz.prog ITryz 97 (xsb):=xfj fun e f j i g=>by
 obtain ⟨k,⟨b,⟨n,_⟩⟩⟩:=e
 obtain ⟨h,_⟩:=f
 obtain ⟨c,a⟩:=Prod.mk.inj g
 have hx:=xya _ _ _ _ _ (xaj (d:=(false,(0,[]),(0,[]))) c)
 revert hx a
 generalize ((xd4 k b n h).getD (false,(0,[]),(0,[])))=p
 intro a hx
 obtain ⟨rfl,rfl⟩:=Prod.mk.inj a
 obtain ⟨t,⟨l,m⟩,o,q⟩:=p
 have hg:GoodM Tryz.prog ITryz 97 _ _ _ _:=xdB (p:=xiR.pin) (xd3 mxTryz (inv0Ok Tryz.prog _) rfl xtv rfl Tryz.func97 rfl (by kernel_rfl) xry hx)
 cases t
 · exact hg
 · exact GoodM.bump1 rfl (by decide) hg
def xnL:Env:=E1.withM 97 xsb
theorem xkI:OrcOk Tryz.prog ITryz xnL:=xD1.withM xyr
def xih:Env:=xnL.fn 106 0 (lsOf []) (lpsOf [])
theorem xue:OrcOk Tryz.prog (ITryz.at 0) xih:=xkI.fn
theorem xq0:LoOk Tryz.prog (ITryz.at xih.pin) xih (loopAt Tryz.f72 0):=xaH (by kernel_rfl)
def xid {T:Type} (d:LA) (e:Int) (a:Nat) (c:Int) (b:LA) (δ:T) (κl:(Nat×Int×LA)→T) (κr:(Nat×LA)→T):T:=br (decide (c<e)) (br (decide (0≤c)&&decide (c<d.length)) (br (decide (c.toNat<d.length)&&((d.getD c.toNat .top).cells.length==3&&hasShs [Sh.int .i64,Sh.int .i64,Sh.int .i64] (d.getD c.toNat .top).cells 0)) (br (xeB ((d.getD c.toNat .top).cells.getD 0 .top).toInt ((d.getD c.toNat .top).cells.getD 1 .top).toInt) (br (a==b.length&&(decide ((a+2)*16≤140737488355328)&&decide (a+2≤4611686018427387904))) (κl (a+2,i64.wrap (c+1),b++[AV.agg [AV.int .i64 ((d.getD c.toNat .top).cells.getD 0 .top).toInt,AV.int .i64 ((d.getD c.toNat .top).cells.getD 2 .top).toInt],AV.agg [AV.int .i64 ((d.getD c.toNat .top).cells.getD 1 .top).toInt,AV.int .i64 (i64.wrap (0 - ((d.getD c.toNat .top).cells.getD 2 .top).toInt))]])) δ) (κl (a,i64.wrap (c+1),b))) δ) δ) (κr (a,b))
def xc2 (c:LA) (d:Int):(Nat×Int×LA)→Option ((Nat×Int×LA)⊕(Nat×LA)):=fun (b,e,a)=>xid c d b e a none (fun s=>some (.inl s)) (fun p=>some (.inr p))
def xgP (c:LA) (d:Int):(Nat×Int×LA)→LA×List Box:=fun (b,e,a)=>([AV.osl 0 0 0 b,AV.list 3 c,AV.int .i64 d,AV.int .i64 e],[⟨0,2,75,a,false,true⟩])
def xfO (a:LA) (b:Int):(Nat×LA)→LR:=fun p=>(.leaf (.exit 0) [AV.osl 0 0 0 p.1] [⟨0,2,75,p.2,false,true⟩])
abbrev xvK (a:LA) (H:List Box):=XR Tryz.prog xih [3,10,11,12] [3] [(3,2,75)] (loopAt Tryz.f72 0) a H
theorem xvO (a:LA) (b:Int) (s:Nat×Int×LA):Enc (encR (xgP a b) (xfO a b)) (xc2 a b s) (xvK (xgP a b s).1 (xgP a b s).2):=by
 obtain ⟨d,e,c⟩:=s
 refine eV (xid a b d e c none (fun s=>some (encR (xgP a b) (xfO a b) (.inl s))) (fun p=>some (encR (xgP a b) (xfO a b) (.inr p)))) (by kernel_rfl) ?_;unfold xc2 xid;repeat' first|exact eN|exact eS rfl|apply eB
def xhG:Lp:=lpOf [3,10,11,12] [3] [(3,2,75)] (pCons (pOsl 0 0 0) (pCons (pList 3 pAny) (pCons (pInt .i64) (pCons (pInt .i64) pNil)))) (pCons (pBox 0 2 75 false true pAny) pNil) fun (b,(c,(d,(e,_)))) (a,_)=>((Iter (xc2 c d) (b,e,a)).isSome,xfO c d ((Iter (xc2 c d) (b,e,a)).getD (0,[])))
theorem xtE:LoopOk Tryz.prog (ITryz.at xih.pin) xih.nt (loopAt Tryz.f72 0) xhG:=xcw fun g h j i=>by
 obtain ⟨b,⟨c,⟨d,⟨e,_⟩⟩⟩⟩:=g
 obtain ⟨a,_⟩:=h
 obtain ⟨f,rfl⟩:=Prod.mk.inj i
 exact xaP mxTryz (inv0Ok Tryz.prog _) rfl xue xq0 (xgP c d) (xfO c d) (fun p=>by simp only [xfO,LR.eval];first|(simp;done)|(repeat' split<;>simp)) (xvO c d) (s:=(b,e,a)) (xaj f)
def xif:Env:=xnL.fn 106 0 (lsOf []) (lpsOf [(3,xhG)])
theorem xua:OrcOk Tryz.prog (ITryz.at 0) xif:=xkI.fn
theorem xqI:LoOk Tryz.prog (ITryz.at xif.pin) xif (loopAt Tryz.f72 1):=xaH (by kernel_rfl)
def xpj (i:Int) (a:LA):=decide (0+i.toNat<a.length)
def xmQ {T:Type} (b e:Nat) (d i:Int) (a c:LA) (δ:T) (κl:(Int×Int×LA×LA)→T) (κr:(Int×Int×LA×LA)→T):T:=br (decide (i<(↑b:Int))) (br (decide (0≤i)&&decide (i<(↑b:Int))) (br (xpj i a&&hasSh1 (Sh.int .i64) ((a.getD (0+i.toNat) .top).cells.getD 0 .top)) (br (((a.getD (0+i.toNat) .top).cells.getD 0 .top).toInt==0) (br (decide (0≤i)&&decide (i<(↑b:Int))) (br (xpj i a&&hasSh1 (Sh.int .i64) ((a.getD (0+i.toNat) .top).cells.getD 1 .top)) (κl (i64.wrap (d+((a.getD (0+i.toNat) .top).cells.getD 1 .top).toInt),i64.wrap (i+1),a,c)) δ) δ) (κr (d,i,a,c))) δ) δ) (κr (d,i,a,c))
def xek (b d:Nat):(Int×Int×LA×LA)→Option ((Int×Int×LA×LA)⊕(Int×Int×LA×LA)):=fun (e,i,a,c)=>xmQ b d e i a c none (fun s=>some (.inl s)) (fun p=>some (.inr p))
def xgQ (b d:Nat):(Int×Int×LA×LA)→LA×List Box:=fun (e,i,a,c)=>([AV.osl 0 0 0 b,AV.osl 1 0 0 d,AV.int .i64 e,AV.int .i64 i],[⟨0,2,75,a,false,true⟩,⟨0,2,75,c,false,true⟩])
def xfP (a b:Nat):(Int×Int×LA×LA)→LR:=fun p=>(.leaf (.exit 2) [AV.osl 0 0 0 a,AV.osl 1 0 0 b,AV.int .i64 p.1,AV.int .i64 p.2.1] [⟨0,2,75,p.2.2.1,false,true⟩,⟨0,2,75,p.2.2.2,false,true⟩])
abbrev xvI (a:LA) (H:List Box):=XR Tryz.prog xif [3,6,7,8] [3,6,7,8] [(3,2,75),(6,2,75)] (loopAt Tryz.f72 1) a H
theorem xvN (a b:Nat) (s:Int×Int×LA×LA):Enc (encR (xgQ a b) (xfP a b)) (xek a b s) (xvI (xgQ a b s).1 (xgQ a b s).2):=by
 obtain ⟨e,i,c,d⟩:=s
 refine eV (xmQ a b e i c d none (fun s=>some (encR (xgQ a b) (xfP a b) (.inl s))) (fun p=>some (encR (xgQ a b) (xfP a b) (.inr p)))) (by kernel_rfl) ?_;unfold xek xmQ;repeat' first|exact eN|exact eS rfl|apply eB
def xjt:Lp:=lpOf [3,6,7,8] [3,6,7,8] [(3,2,75),(6,2,75)] (pCons (pOsl 0 0 0) (pCons (pOsl 1 0 0) (pCons (pInt .i64) (pCons (pInt .i64) pNil)))) (pCons (pBox 0 2 75 false true pAny) (pCons (pBox 0 2 75 false true pAny) pNil)) fun (a,(c,(e,(i,_)))) (b,(d,_))=>((Iter (xek a c) (e,i,b,d)).isSome,xfP a c ((Iter (xek a c) (e,i,b,d)).getD (0,0,[],[])))
theorem xtw:LoopOk Tryz.prog (ITryz.at xif.pin) xif.nt (loopAt Tryz.f72 1) xjt:=xcw fun g h k j=>by
 obtain ⟨a,⟨b,⟨e,⟨i,_⟩⟩⟩⟩:=g
 obtain ⟨c,⟨d,_⟩⟩:=h
 obtain ⟨f,rfl⟩:=Prod.mk.inj j
 exact xaP mxTryz (inv0Ok Tryz.prog _) rfl xua xqI (xgQ a b) (xfP a b) (fun p=>by simp only [xfP,LR.eval];first|(simp;done)|(repeat' split<;>simp)) (xvN a b) (s:=(e,i,c,d)) (xaj f)
def xij:Env:=xnL.fn 106 0 (lsOf []) (lpsOf [(3,xhG),(11,xjt)])
theorem xuF:OrcOk Tryz.prog (ITryz.at 0) xij:=xkI.fn
theorem xrc:LoOk Tryz.prog (ITryz.at xij.pin) xij (loopAt Tryz.f72 3):=xaH (by kernel_rfl)
def xhU (i:Int) (a:LA):=decide (0+i.toNat<a.length)
def xgR {T:Type} (b f:Nat) (e d i:Int) (a c:LA) (δ:T) (κl:(Int×Int×LA×LA)→T) (κr:(Int×Int×LA×LA)→T):T:=br (decide (i<(↑b:Int))) (br (decide (0≤i)&&decide (i<(↑b:Int))) (br (xhU i a&&hasSh1 (Sh.int .i64) ((a.getD (0+i.toNat) .top).cells.getD 0 .top)) (br (((a.getD (0+i.toNat) .top).cells.getD 0 .top).toInt==e) (br (decide (0≤i)&&decide (i<(↑b:Int))) (br (xhU i a&&hasSh1 (Sh.int .i64) ((a.getD (0+i.toNat) .top).cells.getD 1 .top)) (κl (i64.wrap (d+((a.getD (0+i.toNat) .top).cells.getD 1 .top).toInt),i64.wrap (i+1),a,c)) δ) δ) (κr (d,i,a,c))) δ) δ) (κr (d,i,a,c))
def xcJ (b d:Nat) (e:Int):(Int×Int×LA×LA)→Option ((Int×Int×LA×LA)⊕(Int×Int×LA×LA)):=fun (f,i,a,c)=>xgR b d e f i a c none (fun s=>some (.inl s)) (fun p=>some (.inr p))
def xgO (b d:Nat) (e:Int):(Int×Int×LA×LA)→LA×List Box:=fun (f,i,a,c)=>([AV.osl 0 0 0 b,AV.osl 1 0 0 d,AV.int .i64 f,AV.int .i64 i,AV.int .i64 e],[⟨0,2,75,a,false,true⟩,⟨0,2,75,c,false,true⟩])
def xfN (a b:Nat) (c:Int):(Int×Int×LA×LA)→LR:=fun p=>(.leaf (.exit 6) [AV.osl 0 0 0 a,AV.osl 1 0 0 b,AV.int .i64 p.1,AV.int .i64 p.2.1,AV.int .i64 c] [⟨0,2,75,p.2.2.1,false,true⟩,⟨0,2,75,p.2.2.2,false,true⟩])
abbrev xvJ (a:LA) (H:List Box):=XR Tryz.prog xij [3,6,7,8,9] [3,6,7,8,9] [(3,2,75),(6,2,75)] (loopAt Tryz.f72 3) a H
theorem xvF (a b:Nat) (c:Int) (s:Int×Int×LA×LA):Enc (encR (xgO a b c) (xfN a b c)) (xcJ a b c s) (xvJ (xgO a b c s).1 (xgO a b c s).2):=by
 obtain ⟨f,i,d,e⟩:=s
 refine eV (xgR a b c f i d e none (fun s=>some (encR (xgO a b c) (xfN a b c) (.inl s))) (fun p=>some (encR (xgO a b c) (xfN a b c) (.inr p)))) (by kernel_rfl) ?_;unfold xcJ xgR;repeat' first|exact eN|exact eS rfl|apply eB
def xl3:Lp:=lpOf [3,6,7,8,9] [3,6,7,8,9] [(3,2,75),(6,2,75)] (pCons (pOsl 0 0 0) (pCons (pOsl 1 0 0) (pCons (pInt .i64) (pCons (pInt .i64) (pCons (pInt .i64) pNil))))) (pCons (pBox 0 2 75 false true pAny) (pCons (pBox 0 2 75 false true pAny) pNil)) fun (a,(c,(f,(i,(e,_))))) (b,(d,_))=>((Iter (xcJ a c e) (f,i,b,d)).isSome,xfN a c e ((Iter (xcJ a c e) (f,i,b,d)).getD (0,0,[],[])))
theorem xn6:LoopOk Tryz.prog (ITryz.at xij.pin) xij.nt (loopAt Tryz.f72 3) xl3:=xcw fun h j l k=>by
 obtain ⟨a,⟨b,⟨f,⟨i,⟨d,_⟩⟩⟩⟩⟩:=h
 obtain ⟨c,⟨e,_⟩⟩:=j
 obtain ⟨g,rfl⟩:=Prod.mk.inj k
 exact xaP mxTryz (inv0Ok Tryz.prog _) rfl xuF xrc (xgO a b d) (xfN a b d) (fun p=>by simp only [xfN,LR.eval];first|(simp;done)|(repeat' split<;>simp)) (xvF a b d) (s:=(f,i,c,e)) (xaj g)
def xii:Env:=xnL.fn 106 0 (lsOf []) (lpsOf [(3,xhG),(11,xjt),(17,xl3)])
theorem xuL:OrcOk Tryz.prog (ITryz.at 0) xii:=xkI.fn
theorem xqN:LoOk Tryz.prog (ITryz.at xii.pin) xii (loopAt Tryz.f72 2):=xbT (ls:=[loopAt Tryz.f72 3]) (by kernel_rfl) (lkC xn6 lkN)
def xgZ (i:Int) (a:LA):=decide (0+i.toNat<a.length)&&hasSh1 (Sh.int .i64) ((a.getD (0+i.toNat) .top).cells.getD 0 .top)
def xfH (i:Int) (a:LA):=((a.getD (0+i.toNat) .top).cells.getD 0 .top).toInt
def xha (b d:Nat) (e i:Int) (a c:LA):=Iter (xcJ b d (xfH i a)) (e,i,a,c)
def xhR (b d:Nat) (e i:Int) (a c:LA):=(xha b d e i a c).getD (0,0,[],[])
def xhK (b d:Nat) (e i:Int) (a c:LA):=(xhR b d e i a c).fst
def xhH (b d:Nat) (e i:Int) (a c:LA):=(xhR b d e i a c).snd
def xhL (b d:Nat) (e i:Int) (a c:LA):=(xhH b d e i a c).snd
def xhF (b c:Nat) (e i:Int) (a d:LA):=xd4 c (xfH i a) (xhK b c e i a d) (xhL b c e i a d).snd
def xhI (b d:Nat) (e i:Int) (a c:LA):=(xhF b d e i a c).getD (false,(0,[]),0,[])
def xhP (b d:Nat) (e i:Int) (a c:LA):=(xhI b d e i a c).fst
def xhM (b d:Nat) (e i:Int) (a c:LA):=(xhI b d e i a c).snd
def xhJ (b d:Nat) (e i:Int) (a c:LA):=(xhM b d e i a c).fst
def xhV (b d:Nat) (e i:Int) (a c:LA):=(xhM b d e i a c).snd
def xgJ {T:Type} (b d:Nat) (e i:Int) (a c:LA) (δ:T) (κl:(Nat×Int×Int×LA×LA)→T) (κr:(Nat×LA)→T):T:=br (decide (i<(↑b:Int))) (br (decide (0≤i)&&decide (i<(↑b:Int))) (br (xgZ i a) (br (decide (xfH i a<1099511627776)) (br (decide (0≤i)&&decide (i<(↑b:Int))) (br (xgZ i a) (br ((xha b d e i a c).isSome) (br ((xhF b d e i a c).isSome) (κl (br (xhP b d e i a c) (xhJ b d e i a c).fst (xhV b d e i a c).fst,xhK b d e i a c,(xhH b d e i a c).fst,(xhL b d e i a c).fst,br (xhP b d e i a c) (xhJ b d e i a c).snd (xhV b d e i a c).snd)) δ) δ) δ) δ) (κr (d,c))) δ) δ) (κr (d,c))
def xc4 (b:Nat):(Nat×Int×Int×LA×LA)→Option ((Nat×Int×Int×LA×LA)⊕(Nat×LA)):=fun (d,e,i,a,c)=>xgJ b d e i a c none (fun s=>some (.inl s)) (fun p=>some (.inr p))
def xgN (b:Nat):(Nat×Int×Int×LA×LA)→LA×List Box:=fun (d,e,i,a,c)=>([AV.osl 0 0 0 b,AV.osl 1 0 0 d,AV.int .i64 e,AV.int .i64 i],[⟨0,2,75,a,false,true⟩,⟨0,2,75,c,false,true⟩])
def xfJ (a:Nat):(Nat×LA)→LR:=fun p=>(.leaf (.exit 4) [AV.osl 0 0 0 p.1] [⟨0,2,75,p.2,false,true⟩])
abbrev xvE (a:LA) (H:List Box):=XR Tryz.prog xii [3,6,7,8] [6] [(3,2,75),(6,2,75)] (loopAt Tryz.f72 2) a H
theorem xvD (a:Nat) (s:Nat×Int×Int×LA×LA):Enc (encR (xgN a) (xfJ a)) (xc4 a s) (xvE (xgN a s).1 (xgN a s).2):=by
 obtain ⟨d,e,i,b,c⟩:=s
 refine eV (xgJ a d e i b c none (fun s=>some (encR (xgN a) (xfJ a) (.inl s))) (fun p=>some (encR (xgN a) (xfJ a) (.inr p)))) (by kernel_rfl) ?_;unfold xc4 xgJ;repeat' first|exact eN|exact eS rfl|apply eB
def xpe:Lp:=lpOf [3,6,7,8] [6] [(3,2,75),(6,2,75)] (pCons (pOsl 0 0 0) (pCons (pOsl 1 0 0) (pCons (pInt .i64) (pCons (pInt .i64) pNil)))) (pCons (pBox 0 2 75 false true pAny) (pCons (pBox 0 2 75 false true pAny) pNil)) fun (a,(d,(e,(i,_)))) (b,(c,_))=>((Iter (xc4 a) (d,e,i,b,c)).isSome,xfJ a ((Iter (xc4 a) (d,e,i,b,c)).getD (0,[])))
theorem xtx:LoopOk Tryz.prog (ITryz.at xii.pin) xii.nt (loopAt Tryz.f72 2) xpe:=xcw fun g h k j=>by
 obtain ⟨a,⟨d,⟨e,⟨i,_⟩⟩⟩⟩:=g
 obtain ⟨b,⟨c,_⟩⟩:=h
 obtain ⟨f,rfl⟩:=Prod.mk.inj j
 exact xaP mxTryz (inv0Ok Tryz.prog _) rfl xuL xqN (xgN a) (xfJ a) (fun p=>by simp only [xfJ,LR.eval];first|(simp;done)|(repeat' split<;>simp)) (xvD a) (s:=(d,e,i,b,c)) (xaj f)
def xka:Env:=xnL.fn 106 0 (lsOf []) (lpsOf [(3,xhG),(11,xjt),(17,xl3),(15,xpe)])
theorem xun:OrcOk Tryz.prog (ITryz.at 0) xka:=xkI.fn
theorem xst:LoOk Tryz.prog (ITryz.at xka.pin) xka (Tryz.f72.body.getD .skip):=xbT (ls:=[loopAt Tryz.f72 0,loopAt Tryz.f72 1,loopAt Tryz.f72 2,loopAt Tryz.f72 3]) (by kernel_rfl) (lkC xtE (lkC xtw (lkC xtx (lkC xn6 lkN))))
def xnu (l:LA):=(Iter (xc2 l (↑l.length:Int)) (0,0,[])).getD (0,[])
def xi4 (l:LA):=(xnu l).fst
def xlj (l:LA):=(xnu l).snd
def xnF (l:LA):=Iter (xek (xi4 l) 0) (0,0,srtS (xlj l),[])
def xnR (l:LA):=(xnF l).getD (0,0,[],[])
def xnz (l:LA):=(xnR l).fst
def xnJ (l:LA):=(xnR l).snd
def xnM (l:LA):=(xnJ l).snd
def xoG (l:LA):=xd4 0 0 (xnz l) (xnM l).snd
def xoI (l:LA):=(xoG l).getD (false,(0,[]),0,[])
def xoB (l:LA):=(xoI l).fst
def xoN (l:LA):=(xoI l).snd
def xoS (l:LA):=(xoN l).snd
def xo3 (l:LA):=(xoN l).fst
def xoU (l:LA):=Iter (xc4 (xi4 l)) (br (xoB l) (xo3 l).fst (xoS l).fst,xnz l,(xnJ l).fst,(xnM l).fst,br (xoB l) (xo3 l).snd (xoS l).snd)
def xoZ (l:LA):=(xoU l).getD (0,[])
def xoE (l:LA):=(xoZ l).snd
def xoR (l:LA):=(xoZ l).fst
def xm5 {T:Type} (l:LA) (δ:T) (κ:LA→T):T:=br ((Iter (xc2 l (↑l.length:Int)) (0,0,[])).isSome) (br ((xi4 l).beq (xlj l).length&&(decide (xi4 l<4611686018427387904)&&(xlj l).all isS)) (br ((xnF l).isSome) (br ((xoG l).isSome) (br ((xoU l).isSome) (br (decide (0+xoR l≤(xoE l).length)&&true) (κ (List.take (xoR l) (List.drop 0 (xoE l)))) δ) δ) δ) δ) δ) δ
def xiD (l:LA):Option (LA):=xm5 l none some
theorem xz9 (l:LA):Enc (fun (p:LA)=>((AV.list 2 p):AV)) (xiD l) (XF Tryz.prog xka Tryz.f72 (Tryz.f72.body.getD .skip) [AV.list 3 l]):=by
 refine eV (xm5 l none (fun (p:LA)=>some ((AV.list 2 p):AV))) (by kernel_rfl) ?_;unfold xiD xm5;repeat' first|exact eN|exact eS rfl|apply eB
def xtS:LA→Option (Bool×AV):=ocOf (sCons (sList 3 pAny) sNil) fun (l,_)=>((xiD l).isSome,(AV.list 2 ((xiD l).getD [])))
theorem xz6:OcOk Tryz.prog ITryz 72 (xtS):=xcd fun c f e=>by
 obtain ⟨l,_⟩:=c
 obtain ⟨a,b⟩:=Prod.mk.inj e
 refine xbd (p:=xka.pin) (xbI mxTryz (inv0Ok Tryz.prog _) rfl xun Tryz.func72 rfl (by kernel_rfl) xst ((xz9 _ _ (xaj (d:=[]) a)).trans ?_))
 exact congrArg some b
def xtJ:Env:=xnL.with 72 xtS
theorem xrh:OrcOk Tryz.prog ITryz xtJ:=xkI.with xz6
def xd6:Env:=xtJ.fn 20 0 (lsOf []) (lpsOf [])
theorem xoO:OrcOk Tryz.prog (ITryz.at 0) xd6:=xrh.fn
theorem xmW:LoOk Tryz.prog (ITryz.at xd6.pin) xd6 (loopAt Tryz.f45 0):=xaH (by kernel_rfl)
def xep {T:Type} (d:LA) (e:Int) (b:Nat) (a:Int) (c:LA) (δ:T) (κl:(Nat×Int×LA)→T) (κr:(Nat×LA)→T):T:=br (decide (a<e)) (br (decide (0≤a)&&decide (a<d.length)) (br (decide (a.toNat<d.length)&&((d.getD a.toNat .top).cells.length==2&&hasShs [Sh.int .i64,Sh.int .i64] (d.getD a.toNat .top).cells 0)) (br (b==c.length&&(decide ((b+1)*24≤140737488355328)&&decide (b+1≤4611686018427387904))) (κl (b+1,i64.wrap (a+1),c++[AV.agg [AV.int .i64 ((d.getD a.toNat .top).cells.getD 0 .top).toInt,AV.int .i64 ((d.getD a.toNat .top).cells.getD 1 .top).toInt,AV.int .i64 1]])) δ) δ) δ) (κr (b,c))
def xbj (c:LA) (d:Int):(Nat×Int×LA)→Option ((Nat×Int×LA)⊕(Nat×LA)):=fun (b,e,a)=>xep c d b e a none (fun s=>some (.inl s)) (fun p=>some (.inr p))
def xdv (c:LA) (d:Int):(Nat×Int×LA)→LA×List Box:=fun (b,e,a)=>([AV.osl 0 0 0 b,AV.list 2 c,AV.int .i64 d,AV.int .i64 e],[⟨0,3,78,a,false,true⟩])
def xc0 (a:LA) (b:Int):(Nat×LA)→LR:=fun p=>(.leaf (.exit 0) [AV.osl 0 0 0 p.1] [⟨0,3,78,p.2,false,true⟩])
abbrev xpo (a:LA) (H:List Box):=XR Tryz.prog xd6 [3,6,7,8] [3] [(3,3,78)] (loopAt Tryz.f45 0) a H
theorem xpg (a:LA) (b:Int) (s:Nat×Int×LA):Enc (encR (xdv a b) (xc0 a b)) (xbj a b s) (xpo (xdv a b s).1 (xdv a b s).2):=by
 obtain ⟨d,e,c⟩:=s
 refine eV (xep a b d e c none (fun s=>some (encR (xdv a b) (xc0 a b) (.inl s))) (fun p=>some (encR (xdv a b) (xc0 a b) (.inr p)))) (by kernel_rfl) ?_;unfold xbj xep;repeat' first|exact eN|exact eS rfl|apply eB
def xj5:Lp:=lpOf [3,6,7,8] [3] [(3,3,78)] (pCons (pOsl 0 0 0) (pCons (pList 2 pAny) (pCons (pInt .i64) (pCons (pInt .i64) pNil)))) (pCons (pBox 0 3 78 false true pAny) pNil) fun (b,(c,(d,(e,_)))) (a,_)=>((Iter (xbj c d) (b,e,a)).isSome,xc0 c d ((Iter (xbj c d) (b,e,a)).getD (0,[])))
theorem xnY:LoopOk Tryz.prog (ITryz.at xd6.pin) xd6.nt (loopAt Tryz.f45 0) xj5:=xcw fun f g j h=>by
 obtain ⟨d,⟨a,⟨b,⟨i,_⟩⟩⟩⟩:=f
 obtain ⟨c,_⟩:=g
 obtain ⟨e,rfl⟩:=Prod.mk.inj h
 exact xaP mxTryz (inv0Ok Tryz.prog _) rfl xoO xmW (xdv a b) (xc0 a b) (fun p=>by simp only [xc0,LR.eval];first|(simp;done)|(repeat' split<;>simp)) (xpg a b) (s:=(d,i,c)) (xaj e)
def xe3:Env:=xtJ.fn 20 0 (lsOf []) (lpsOf [(3,xj5)])
theorem xoF:OrcOk Tryz.prog (ITryz.at 0) xe3:=xrh.fn
theorem xnP:LoOk Tryz.prog (ITryz.at xe3.pin) xe3 (Tryz.f45.body.getD .skip):=xbT (ls:=[loopAt Tryz.f45 0]) (by kernel_rfl) (lkC xnY lkN)
def xir (l:LA):=(Iter (xbj l (↑l.length:Int)) (0,0,[])).getD (0,[])
def xiq (l:LA):=(xir l).snd
def xip (l:LA):=(xir l).fst
def xik (l:LA):=xiD (List.take (xip l) (List.drop 0 (xiq l)))
def xg9 {T:Type} (l:LA) (δ:T) (κ:LA→T):T:=br ((Iter (xbj l (↑l.length:Int)) (0,0,[])).isSome) (br (decide (0+xip l≤(xiq l).length)&&true) (br ((xik l).isSome) (κ ((xik l).getD [])) δ) δ) δ
def xcI (l:LA):Option (LA):=xg9 l none some
theorem xq7 (l:LA):Enc (fun (p:LA)=>((AV.list 2 p):AV)) (xcI l) (XF Tryz.prog xe3 Tryz.f45 (Tryz.f45.body.getD .skip) [AV.list 2 l]):=by
 refine eV (xg9 l none (fun (p:LA)=>some ((AV.list 2 p):AV))) (by kernel_rfl) ?_;unfold xcI xg9;repeat' first|exact eN|exact eS rfl|apply eB
def xmI:LA→Option (Bool×AV):=ocOf (sCons (sList 2 pAny) sNil) fun (l,_)=>((xcI l).isSome,(AV.list 2 ((xcI l).getD [])))
theorem xqY:OcOk Tryz.prog ITryz 45 (xmI):=xcd fun c f e=>by
 obtain ⟨l,_⟩:=c
 obtain ⟨a,b⟩:=Prod.mk.inj e
 refine xbd (p:=xe3.pin) (xbI mxTryz (inv0Ok Tryz.prog _) rfl xoF Tryz.func45 rfl (by kernel_rfl) xnP ((xq7 _ _ (xaj (d:=[]) a)).trans ?_))
 exact congrArg some b
def xBx:Env:=xtJ.with 45 xmI
theorem xBA:OrcOk Tryz.prog ITryz xBx:=xrh.with xqY
abbrev EKP1:Env:=xBx
theorem xrr:OrcOk Tryz.prog ITryz EKP1:=xBA
end Go.Sim.M
end
noncomputable section
set_option maxRecDepth 100000
namespace Go.Sim.M
open Go.IntKind (i64 u64 u8)
open Go.RowKit Go.Proofs
def xgS:Env:=EKP1.fn 71 5 (lsOf []) (lpsOf [])
theorem xsm:OrcOk Tryz.prog (ITryz.at 5) xgS:=xrr.fn
theorem xpT:LoOk Tryz.prog (ITryz.at xgS.pin) xgS (loopAt Tryz.f68 1):=xaH (by kernel_rfl)
def xhd {T:Type} (o n:Int) (f g:Nat) (k p m j:Int) (i l d h a:Nat) (b:LA) (e:Nat) (c:LA) (δ:T) (κl:(Int×Int×Nat×Nat×Nat×Nat×Nat×LA×Nat×LA)→T) (κr:(Int×Nat×Nat×Nat×Nat×LA×Nat×LA×Nat)→T):T:=br (decide (m<p)) (br (a==f) (br (a==f) (br (a==f&&(decide (g<b.length)&&hasSh1 (Sh.int .i64) ((b.getD g .top).cells.getD 0 .top))) (br (e==h&&(d==c.length&&(decide ((d+1)*16≤140737488355328)&&decide (d+1≤4611686018427387904)))) (κl (i64.wrap (m+1),j,i,l,d+1,h+1,a,List.take i b,h+1,c++[AV.agg [AV.int .i64 ((b.getD g .top).cells.getD 0 .top).toInt,AV.int .i64 o]])) δ) δ) δ) δ) (κr (j,l,i,h,d,b,a,c,e))
def xb9 (m n:Int) (e f:Nat) (k o:Int):(Int×Int×Nat×Nat×Nat×Nat×Nat×LA×Nat×LA)→Option ((Int×Int×Nat×Nat×Nat×Nat×Nat×LA×Nat×LA)⊕(Int×Nat×Nat×Nat×Nat×LA×Nat×LA×Nat)):=fun (q,g,h,i,j,l,a,b,c,d)=>xhd m n e f k o q g h i j l a b c d none (fun s=>some (.inl s)) (fun p=>some (.inr p))
def xfK (m n:Int) (e f:Nat) (k o:Int):(Int×Int×Nat×Nat×Nat×Nat×Nat×LA×Nat×LA)→LA×List Box:=fun (p,g,h,i,j,l,a,b,c,d)=>([AV.int .i64 m,AV.int .i64 n,AV.own 0 0 0 0,AV.own 1 0 0 0,AV.own 2 0 0 0,AV.own 3 e f 0,AV.int .i64 k,AV.int .i64 o,AV.int .i64 p],[⟨0,1,3,[AV.int .i64 g],false,true⟩,⟨0,1,84,[AV.osl 3 i 0 h],false,false⟩,⟨0,1,53,[AV.osl 4 l 0 j],false,false⟩,⟨a,2,86,b,false,true⟩,⟨c,2,31,d,false,true⟩])
def xeQ (c n:Int) (a b:Nat) (k d:Int):(Int×Nat×Nat×Nat×Nat×LA×Nat×LA×Nat)→LR:=fun p=>(.leaf (.exit 2) [AV.int .i64 c,AV.int .i64 n,AV.own 0 0 0 0,AV.own 1 0 0 0,AV.own 2 0 0 0,AV.own 3 a b 0,AV.int .i64 k] [⟨0,1,3,[AV.int .i64 p.1],false,true⟩,⟨0,1,84,[AV.osl 3 p.2.1 0 p.2.2.1],false,false⟩,⟨0,1,53,[AV.osl 4 p.2.2.2.1 0 p.2.2.2.2.1],false,false⟩,⟨p.2.2.2.2.2.2.1,2,86,p.2.2.2.2.2.1,false,true⟩,⟨p.2.2.2.2.2.2.2.2,2,31,p.2.2.2.2.2.2.2.1,false,true⟩])
abbrev xtF (a:LA) (H:List Box):=XR Tryz.prog xgS [0,1,2,3,4,7,8,37,38] [0,1,2,3,4,7,8] [(3,0,0)] (loopAt Tryz.f68 1) a H
theorem xs2 (c n:Int) (a b:Nat) (k d:Int) (s:Int×Int×Nat×Nat×Nat×Nat×Nat×LA×Nat×LA):Enc (encR (xfK c n a b k d) (xeQ c n a b k d)) (xb9 c n a b k d s) (xtF (xfK c n a b k d s).1 (xfK c n a b k d s).2):=by
 obtain ⟨q,i,j,l,m,o,e,f,g,h⟩:=s
 refine eV (xhd c n a b k d q i j l m o e f g h none (fun s=>some (encR (xfK c n a b k d) (xeQ c n a b k d) (.inl s))) (fun p=>some (encR (xfK c n a b k d) (xeQ c n a b k d) (.inr p)))) (by kernel_rfl) ?_;unfold xb9 xhd;repeat' first|exact eN|exact eS rfl|apply eB
def xkt:Lp:=lpOf [0,1,2,3,4,7,8,37,38] [0,1,2,3,4,7,8] [(3,0,0)] (pCons (pInt .i64) (pCons (pInt .i64) (pCons (pOwn 0 0 0 0) (pCons (pOwn 1 0 0 0) (pCons (pOwn 2 0 0 0) (pCons (pOwnV 3 0) (pCons (pInt .i64) (pCons (pInt .i64) (pCons (pInt .i64) pNil))))))))) (pCons (pBox 0 1 3 false true (pCons (pInt .i64) pNil)) (pCons (pBox 0 1 84 false false (pCons (pOslV 3 0) pNil)) (pCons (pBox 0 1 53 false false (pCons (pOslV 4 0) pNil)) (pCons (pBoxV 2 86 false true pAny) (pCons (pBoxV 2 31 false true pAny) pNil))))) fun (g,(n,(_,(_,(_,((e,f),(k,(h,(p,_))))))))) ((i,_),(((j,l),_),(((m,o),_),((a,b),((c,d),_)))))=>((Iter (xb9 g n e f k h) (p,i,l,j,o,m,a,b,c,d)).isSome,xeQ g n e f k h ((Iter (xb9 g n e f k h) (p,i,l,j,o,m,a,b,c,d)).getD (0,0,0,0,0,[],0,[],0)))
theorem xm3:LoopOk Tryz.prog (ITryz.at xgS.pin) xgS.nt (loopAt Tryz.f68 1) xkt:=xcw fun t u w v=>by
 obtain ⟨g,⟨n,⟨_,⟨_,⟨_,⟨⟨a,b⟩,⟨k,⟨h,⟨q,_⟩⟩⟩⟩⟩⟩⟩⟩⟩:=t
 obtain ⟨⟨i,_⟩,⟨⟨⟨j,l⟩,_⟩,⟨⟨⟨m,o⟩,_⟩,⟨⟨c,d⟩,⟨⟨e,f⟩,_⟩⟩⟩⟩⟩:=u
 obtain ⟨r,rfl⟩:=Prod.mk.inj v
 exact xaP mxTryz (inv0Ok Tryz.prog _) rfl xsm xpT (xfK g n a b k h) (xeQ g n a b k h) (fun p=>by simp only [xeQ,LR.eval];first|(simp;done)|(repeat' split<;>simp)) (xs2 g n a b k h) (s:=(q,i,l,j,o,m,c,d,e,f)) (xaj r)
def xgK:Env:=EKP1.fn 71 5 (lsOf []) (lpsOf [(7,xkt)])
theorem xsL:OrcOk Tryz.prog (ITryz.at 5) xgK:=xrr.fn
theorem xpO:LoOk Tryz.prog (ITryz.at xgK.pin) xgK (loopAt Tryz.f68 0):=xbT (ls:=[loopAt Tryz.f68 1]) (by kernel_rfl) (lkC xm3 lkN)
def xbo (a:Nat):Nat:=0+(i64.wrap ((↑a:Int) - 1)).toNat
def xdY (n b:Int) (c d:Nat) (a:LA):Int:=if i64.wrap (b - n)<((a.getD (xbo c) .top).cells.getD 1 .top).toInt then i64.wrap (b - n) else ((a.getD (xbo c) .top).cells.getD 1 .top).toInt
def xhy (j n d:Int) (c g h i a:Nat) (b:LA) (e:Nat) (f:LA):=Iter (xb9 j n g (xbo c) (xdY n d c a b) (xdY n d c a b)) (0,d,c,g,h,i,a,List.take c b,e,f)
def xf1 (j n e:Int) (f g h i a:Nat) (b:LA) (c:Nat) (d:LA):=(xhy j n e f g h i a b c d).getD (0,0,0,0,0,[],0,[],0)
def xhB (j n e:Int) (f g h i a:Nat) (b:LA) (c:Nat) (d:LA):=(xf1 j n e f g h i a b c d).snd
def xfc (j n e:Int) (f g h i a:Nat) (b:LA) (c:Nat) (d:LA):=(xhB j n e f g h i a b c d).fst
def xhA (j n e:Int) (f g h i a:Nat) (b:LA) (c:Nat) (d:LA):=(xhB j n e f g h i a b c d).snd
def xfl (j n e:Int) (f g h i a:Nat) (b:LA) (c:Nat) (d:LA):=(xhA j n e f g h i a b c d).fst
def xf0 (j n e:Int) (f g h i a:Nat) (b:LA) (c:Nat) (d:LA):=(xhA j n e f g h i a b c d).snd
def xfo (j n e:Int) (f g h i a:Nat) (b:LA) (c:Nat) (d:LA):=i64.wrap ((↑(xfl j n e f g h i a b c d):Int) - 1)
def xfZ (j n e:Int) (f g h i a:Nat) (b:LA) (c:Nat) (d:LA):=(xf0 j n e f g h i a b c d).snd
def xhz (j n e:Int) (f g h i a:Nat) (b:LA) (c:Nat) (d:LA):=(xfZ j n e f g h i a b c d).snd
def xgo (j n e:Int) (f g h i a:Nat) (b:LA) (c:Nat) (d:LA):=(xhz j n e f g h i a b c d).fst
def xh1 (j n e:Int) (f g h i a:Nat) (b:LA) (c:Nat) (d:LA):=(xhz j n e f g h i a b c d).snd
def xdG (j n f:Int) (g e h i a:Nat) (b:LA) (c:Nat) (d:LA):=(xh1 j n f g e h i a b c d).fst==e
def xh6 (j n f:Int) (e g h i a:Nat) (b:LA) (c:Nat) (d:LA):=decide (xbo e<(xgo j n f e g h i a b c d).length)
def xe9 (j n f:Int) (e g h i a:Nat) (b:LA) (c:Nat) (d:LA):=((xgo j n f e g h i a b c d).getD (xbo e) .top).cells
def xfg (j n e:Int) (f g h i a:Nat) (b:LA) (c:Nat) (d:LA):=(xh1 j n e f g h i a b c d).snd
def xen (j n f:Int) (e g h i a:Nat) (b:LA) (c:Nat) (d:LA):=(xgo j n f e g h i a b c d).set (xbo e) (AV.agg (List.take 1 (xe9 j n f e g h i a b c d)++[AV.int .i64 (i64.wrap (((xe9 j n f e g h i a b c d).getD 1 .top).toInt - xdY n f e a b))]++List.drop 2 (xe9 j n f e g h i a b c d)))
def xeE {T:Type} (j n g:Int) (f e h i a:Nat) (b:LA) (c:Nat) (d:LA) (δ:T) (κl:(Int×Nat×Nat×Nat×Nat×Nat×LA×Nat×LA)→T) (κr:(Int×Nat×Nat×Nat×Nat×LA×Nat×LA×Nat)→T):T:=br (decide (g>n)) (br (a==e) (br (a==e&&(decide (0≤i64.wrap ((↑f:Int) - 1))&&decide (i64.wrap ((↑f:Int) - 1)<(↑f:Int)))) (br (a==e) (br (a==e) (br (a==e&&(decide (xbo f<b.length)&&hasSh1 (Sh.int .i64) ((b.getD (xbo f) .top).cells.getD 1 .top))) (br ((xhy j n g f e h i a b c d).isSome) (br (xdG j n g f e h i a b c d) (br (xdG j n g f e h i a b c d) (br (xdG j n g f e h i a b c d&&(xh6 j n g f e h i a b c d&&hasSh1 (Sh.int .i64) ((xe9 j n g f e h i a b c d).getD 1 .top))) (br (xdG j n g f e h i a b c d) (br (xdG j n g f e h i a b c d) (br (xdG j n g f e h i a b c d&&xh6 j n g f e h i a b c d) (br (e==e) (br (e==e) (br (e==e&&(decide (xbo f<(xen j n g f e h i a b c d).length)&&hasSh1 (Sh.int .i64) (((xen j n g f e h i a b c d).getD (xbo f) .top).cells.getD 1 .top))) (br ((((xen j n g f e h i a b c d).getD (xbo f) .top).cells.getD 1 .top).toInt==0) (br (e==xfc j n g f e h i a b c d) (br (e==xfc j n g f e h i a b c d&&(decide (0≤xfo j n g f e h i a b c d)&&decide (xfo j n g f e h i a b c d≤(↑(xfl j n g f e h i a b c d):Int))&&true)) (κl (i64.wrap ((xf1 j n g f e h i a b c d).fst - xdY n g f a b),(xfo j n g f e h i a b c d).toNat - 0,xfc j n g f e h i a b c d,(xfZ j n g f e h i a b c d).fst,(xf0 j n g f e h i a b c d).fst,e,List.take ((xfo j n g f e h i a b c d).toNat - 0) (xen j n g f e h i a b c d),(xfg j n g f e h i a b c d).snd,(xfg j n g f e h i a b c d).fst)) δ) δ) (κl (i64.wrap ((xf1 j n g f e h i a b c d).fst - xdY n g f a b),xfl j n g f e h i a b c d,xfc j n g f e h i a b c d,(xfZ j n g f e h i a b c d).fst,(xf0 j n g f e h i a b c d).fst,e,List.take (xfl j n g f e h i a b c d) (xen j n g f e h i a b c d),(xfg j n g f e h i a b c d).snd,(xfg j n g f e h i a b c d).fst))) δ) δ) δ) δ) δ) δ) δ) δ) δ) δ) δ) δ) δ) δ) δ) (κr (g,e,f,i,h,b,a,d,c))
def xbK (j n:Int):(Int×Nat×Nat×Nat×Nat×Nat×LA×Nat×LA)→Option ((Int×Nat×Nat×Nat×Nat×Nat×LA×Nat×LA)⊕(Int×Nat×Nat×Nat×Nat×LA×Nat×LA×Nat)):=fun (e,f,g,h,i,a,b,c,d)=>xeE j n e f g h i a b c d none (fun s=>some (.inl s)) (fun p=>some (.inr p))
def xfT (j n:Int):(Int×Nat×Nat×Nat×Nat×Nat×LA×Nat×LA)→LA×List Box:=fun (e,f,g,h,i,a,b,c,d)=>([AV.int .i64 j,AV.int .i64 n,AV.own 0 0 0 0,AV.own 1 0 0 0,AV.own 2 0 0 0],[⟨0,1,3,[AV.int .i64 e],false,true⟩,⟨0,1,84,[AV.osl 3 g 0 f],false,false⟩,⟨0,1,53,[AV.osl 4 i 0 h],false,false⟩,⟨a,2,86,b,false,true⟩,⟨c,2,31,d,false,true⟩])
def xeT (a n:Int):(Int×Nat×Nat×Nat×Nat×LA×Nat×LA×Nat)→LR:=fun p=>(.leaf (.exit 0) [] [⟨0,1,3,[AV.int .i64 p.1],false,true⟩,⟨0,1,84,[AV.osl 3 p.2.1 0 p.2.2.1],false,false⟩,⟨0,1,53,[AV.osl 4 p.2.2.2.1 0 p.2.2.2.2.1],false,false⟩,⟨p.2.2.2.2.2.2.1,2,86,p.2.2.2.2.2.1,false,true⟩,⟨p.2.2.2.2.2.2.2.2,2,31,p.2.2.2.2.2.2.2.1,false,true⟩])
abbrev xtt (a:LA) (H:List Box):=XR Tryz.prog xgK [0,1,2,3,4] [] [(3,0,0)] (loopAt Tryz.f68 0) a H
theorem xtQ (a n:Int) (s:Int×Nat×Nat×Nat×Nat×Nat×LA×Nat×LA):Enc (encR (xfT a n) (xeT a n)) (xbK a n s) (xtt (xfT a n s).1 (xfT a n s).2):=by
 obtain ⟨f,g,h,i,j,b,c,d,e⟩:=s
 refine eV (xeE a n f g h i j b c d e none (fun s=>some (encR (xfT a n) (xeT a n) (.inl s))) (fun p=>some (encR (xfT a n) (xeT a n) (.inr p)))) (by kernel_rfl) ?_;unfold xbK xeE;repeat' first|exact eN|exact eS rfl|apply eB
def xnt:Lp:=lpOf [0,1,2,3,4] [] [(3,0,0)] (pCons (pInt .i64) (pCons (pInt .i64) (pCons (pOwn 0 0 0 0) (pCons (pOwn 1 0 0 0) (pCons (pOwn 2 0 0 0) pNil))))) (pCons (pBox 0 1 3 false true (pCons (pInt .i64) pNil)) (pCons (pBox 0 1 84 false false (pCons (pOslV 3 0) pNil)) (pCons (pBox 0 1 53 false false (pCons (pOslV 4 0) pNil)) (pCons (pBoxV 2 86 false true pAny) (pCons (pBoxV 2 31 false true pAny) pNil))))) fun (e,(n,(_,(_,(_,_))))) ((f,_),(((g,h),_),(((i,j),_),((a,b),((c,d),_)))))=>((Iter (xbK e n) (f,h,g,j,i,a,b,c,d)).isSome,xeT e n ((Iter (xbK e n) (f,h,g,j,i,a,b,c,d)).getD (0,0,0,0,0,[],0,[],0)))
theorem xrJ:LoopOk Tryz.prog (ITryz.at xgK.pin) xgK.nt (loopAt Tryz.f68 0) xnt:=xcw fun l m q o=>by
 obtain ⟨e,⟨n,⟨_,⟨_,⟨_,_⟩⟩⟩⟩⟩:=l
 obtain ⟨⟨f,_⟩,⟨⟨⟨g,h⟩,_⟩,⟨⟨⟨i,j⟩,_⟩,⟨⟨a,b⟩,⟨⟨c,d⟩,_⟩⟩⟩⟩⟩:=m
 obtain ⟨k,rfl⟩:=Prod.mk.inj o
 exact xaP mxTryz (inv0Ok Tryz.prog _) rfl xsL xpO (xfT e n) (xeT e n) (fun p=>by simp only [xeT,LR.eval];first|(simp;done)|(repeat' split<;>simp)) (xtQ e n) (s:=(f,h,g,j,i,a,b,c,d)) (xaj k)
def xic:Env:=EKP1.fn 71 5 (lsOf []) (lpsOf [(7,xkt),(3,xnt)])
theorem xsi:OrcOk Tryz.prog (ITryz.at 5) xic:=xrr.fn
theorem xqC:LoOk Tryz.prog (ITryz.at xic.pin) xic (Tryz.f68.body.getD .skip):=xbT (ls:=[loopAt Tryz.f68 0,loopAt Tryz.f68 1]) (by kernel_rfl) (lkC xrJ (lkC xm3 lkN))
def xjF (a n h:Int) (b c:Nat) (d e:LA):=Iter (xbK a n) (n,b+1,1,c,0,1,List.take (b+1) (d++[AV.agg [AV.int .i64 a,AV.int .i64 (i64.wrap (n - h))]]),0,e)
def xjE (a n h:Int) (b c:Nat) (d e:LA):=Iter (xbK a n) (h,b,0,c,0,0,List.take b d,0,e)
def xjv (a n h:Int) (b c:Nat) (d e:LA):=(xjF a n h b c d e).getD (0,0,0,0,0,[],0,[],0)
def xjH (a n h:Int) (b c:Nat) (d e:LA):=(xjE a n h b c d e).getD (0,0,0,0,0,[],0,[],0)
def xkb (a n h:Int) (b c:Nat) (d e:LA):=(xjv a n h b c d e).snd
def xjA (a n h:Int) (b c:Nat) (d e:LA):=(xjH a n h b c d e).snd
def xkn (a n h:Int) (b c:Nat) (d e:LA):=(xkb a n h b c d e).snd
def xjj (a n h:Int) (b c:Nat) (d e:LA):=(xjA a n h b c d e).snd
def xkj (a n h:Int) (b c:Nat) (d e:LA):=(xkn a n h b c d e).snd
def xjD (a n h:Int) (b c:Nat) (d e:LA):=(xjj a n h b c d e).snd
def xki (a n h:Int) (b c:Nat) (d e:LA):=(xkj a n h b c d e).snd
def xjy (a n h:Int) (b c:Nat) (d e:LA):=(xjD a n h b c d e).snd
def xkk (a n h:Int) (b c:Nat) (d e:LA):=(xki a n h b c d e).snd
def xkl (a n h:Int) (b c:Nat) (d e:LA):=(xjy a n h b c d e).snd
def xkm (a n h:Int) (b c:Nat) (d e:LA):=(xkk a n h b c d e).snd
def xkd (a n h:Int) (b c:Nat) (d e:LA):=(xkl a n h b c d e).snd
def xkc (a n h:Int) (b c:Nat) (d e:LA):=(xkm a n h b c d e).snd
def xke (a n h:Int) (b c:Nat) (d e:LA):=(xkd a n h b c d e).snd
def xiX {T:Type} (a n h:Int) (b d:Nat) (c e:LA) (δ:T) (κ:Int×Nat×Nat×Nat×Nat×LA×Nat×LA×Nat→T):T:=br (decide (n>h)) (br (b==c.length&&(decide ((b+1)*16≤140737488355328)&&decide (b+1≤4611686018427387904))) (br ((xjF a n h b d c e).isSome) (κ ((xjv a n h b d c e).fst,(xkb a n h b d c e).fst,(xkn a n h b d c e).fst,(xkj a n h b d c e).fst,(xki a n h b d c e).fst,(xkk a n h b d c e).fst,(xkm a n h b d c e).fst,(xkc a n h b d c e).fst,(xkc a n h b d c e).snd)) δ) δ) (br ((xjE a n h b d c e).isSome) (κ ((xjH a n h b d c e).fst,(xjA a n h b d c e).fst,(xjj a n h b d c e).fst,(xjD a n h b d c e).fst,(xjy a n h b d c e).fst,(xkl a n h b d c e).fst,(xkd a n h b d c e).fst,(xke a n h b d c e).fst,(xke a n h b d c e).snd)) δ)
def xjr (a n h:Int) (b c:Nat) (d e:LA):Option (Int×Nat×Nat×Nat×Nat×LA×Nat×LA×Nat):=xiX a n h b c d e none some
theorem xv4 (a n h:Int) (b c:Nat) (d e:LA):Enc (fun (p:Int×Nat×Nat×Nat×Nat×LA×Nat×LA×Nat)=>(((AV.tuple [],([⟨0,1,3,[AV.int .i64 p.1],false,true⟩,⟨0,1,84,[AV.osl 3 p.2.1 0 p.2.2.1],false,false⟩,⟨0,1,53,[AV.osl 4 p.2.2.2.1 0 p.2.2.2.2.1],false,false⟩,⟨p.2.2.2.2.2.2.1,2,86,p.2.2.2.2.2.1,false,true⟩,⟨p.2.2.2.2.2.2.2.2,2,31,p.2.2.2.2.2.2.2.1,false,true⟩]:List Box))):(AV×List Box))) (xjr a n h b c d e) (XFM Tryz.prog xic Tryz.f68 (Tryz.f68.body.getD .skip) [AV.int .i64 a,AV.int .i64 n,AV.own (0:Id) 0 0 0,AV.own (1:Id) 0 0 0,AV.own (2:Id) 0 0 0] [{ ver:=0,sz:=1,ty:=(3:TypeId),xs:=[AV.int .i64 h],frz:=false,pm:=true },{ ver:=0,sz:=1,ty:=(84:TypeId),xs:=[AV.osl (3:Id) 0 0 b],frz:=false,pm:=false },{ ver:=0,sz:=1,ty:=(53:TypeId),xs:=[AV.osl (4:Id) 0 0 c],frz:=false,pm:=false },{ ver:=0,sz:=2,ty:=(86:TypeId),xs:=d,frz:=false,pm:=true },{ ver:=0,sz:=2,ty:=(31:TypeId),xs:=e,frz:=false,pm:=true }]):=by
 refine eV (xiX a n h b c d e none (fun (p:Int×Nat×Nat×Nat×Nat×LA×Nat×LA×Nat)=>some (((AV.tuple [],([⟨0,1,3,[AV.int .i64 p.1],false,true⟩,⟨0,1,84,[AV.osl 3 p.2.1 0 p.2.2.1],false,false⟩,⟨0,1,53,[AV.osl 4 p.2.2.2.1 0 p.2.2.2.2.1],false,false⟩,⟨p.2.2.2.2.2.2.1,2,86,p.2.2.2.2.2.1,false,true⟩,⟨p.2.2.2.2.2.2.2.2,2,31,p.2.2.2.2.2.2.2.1,false,true⟩]:List Box))):(AV×List Box)))) (by kernel_rfl) ?_;unfold xjr xiX;repeat' first|exact eN|exact eS rfl|apply eB
end Go.Sim.M
end
noncomputable section
set_option maxRecDepth 100000
namespace Go.Sim
open Go.RowKit
theorem GoodM.aged {P:Program} {Inv:IV} {f:FuncId} {args:List AV} {H:List Box} {x0:AV} {v3 v4 k3 k4 t0 t1 t2 t3 t4 s3 s4:Nat} {xs3 xs4:List AV} (hlen:H.length=5) (hz3:∀ bx,H[3]?=some bx→bx.ver=0) (hz4:∀ bx,H[4]?=some bx→bx.ver=0)
  (p0:isC t0=false) (p1:isC t1=false) (p2:isC t2=false) (p3:isC t3=false) (p4:isC t4=false)
  (h:GoodM P Inv f args H (.tuple []) [⟨0,1,t0,[x0],false,true⟩,⟨0,1,t1,[.osl (.b 3) v3 0 k3],false,false⟩,⟨0,1,t2,[.osl (.b 4) v4 0 k4],false,false⟩,⟨v3,s3,t3,xs3,false,true⟩,⟨v4,s4,t4,xs4,false,true⟩]) :
  GoodM P Inv f args H (.tuple []) [⟨0,1,t0,[x0],false,true⟩,⟨0,1,t1,[.osl (.b 3) 1 0 k3],false,false⟩,⟨0,1,t2,[.osl (.b 4) 1 0 k4],false,false⟩,⟨1,s3,t3,xs3,false,true⟩,⟨1,s4,t4,xs4,false,true⟩]:=by
 refine ⟨h.1,fun w0 w A M vs hI hB hR hrc=>(h.2 w0 w A M vs hI hB hR hrc).mono ?_⟩
 rintro e w' ⟨u,A',M',rfl,h1,h2,h3,h4,h5⟩
 let M'':Id→Option MB:=fun id=>if id=.b 3∨id=.b 4 then (M' id).map fun m=>⟨m.b,1,m.sz,m.cap,m.ty⟩ else M' id
 have e3:∀ m,M' (.b 3)=some m→M'' (.b 3)=some ⟨m.b,1,m.sz,m.cap,m.ty⟩:=fun m hm=>by simp [M'',hm]
 have e4:∀ m,M' (.b 4)=some m→M'' (.b 4)=some ⟨m.b,1,m.sz,m.cap,m.ty⟩:=fun m hm=>by
  show (if (Id.b 4=.b 3∨Id.b 4=.b 4) then _ else _)=_
  rw [if_pos (.inr rfl),hm];rfl
 have eo:∀ id,id≠.b 3→id≠.b 4→M'' id=M' id:=fun id g1 g2=>by
  show (if _ then _ else _)=_
  rw [if_neg (fun e=>e.elim g1 g2)]
 have hsrc:∀ id m1,M'' id=some m1→∃ m0,M' id=some m0∧m1.b=m0.b∧m1.cap=m0.cap∧m1.sz=m0.sz∧m1.ty=m0.ty:=fun id m1 hm1=>by
  by_cases g3:id=.b 3
  · subst g3
    cases hm:M' (.b 3) with
    | none=>simp [M'',hm] at hm1
    | some m=>rw [e3 m hm] at hm1;simp only [Option.some.injEq] at hm1;subst hm1;exact ⟨m,rfl,rfl,rfl,rfl,rfl⟩
  · by_cases g4:id=.b 4
    · subst g4
      cases hm:M' (.b 4) with
      | none =>
       have:M'' (.b 4)=none:=by
        show (if (Id.b 4=.b 3∨Id.b 4=.b 4) then _ else _)=_
        rw [if_pos (.inr rfl),hm];rfl
       rw [this] at hm1;cases hm1
      | some m=>rw [e4 m hm] at hm1;simp only [Option.some.injEq] at hm1;subst hm1;exact ⟨m,rfl,rfl,rfl,rfl,rfl⟩
    · rw [eo id g3 g4] at hm1
      exact ⟨m1,hm1,rfl,rfl,rfl,rfl⟩
 have hosl:∀ (n v k:Nat) (c:Value) (m:MB),M' (.b n)=some m→M'' (.b n)=some ⟨m.b,1,m.sz,m.cap,m.ty⟩→v=m.ver→Rel w' A' M' c (.osl (.b n) v 0 k)→Rel w' A' M'' c (.osl (.b n) 1 0 k):=fun n v k c m hm hm'' hv hr=>by
  obtain ⟨m0,g1,g2,g3,g4⟩:=Rel.osl_inv hr
  rw [hm] at g1
  simp only [Option.some.injEq] at g1
  subst g1
  exact .osl c (.b n) 1 0 k _ hm'' (Nat.le_refl _) g3 fun _=>g4 hv
 have hbox:∀ (n:Nat) (bx:Box) (m:MB),[⟨0,1,t0,[x0],false,true⟩,⟨0,1,t1,[.osl (.b 3) v3 0 k3],false,false⟩,⟨0,1,t2,[.osl (.b 4) v4 0 k4],false,false⟩,⟨v3,s3,t3,xs3,false,true⟩,⟨v4,s4,t4,xs4,false,true⟩][n]?=some bx→M' (.b n)=some m→BoxAt w' A' M' w0.heap.size (.b n) m bx:=fun n bx m hn hm=>by
  obtain ⟨bx',g1,g2⟩:=h4.box _ m hm
  rw [xev,hn] at g1
  simp only [Option.some.injEq] at g1
  subst g1
  exact g2
 have hpure:∀ (id:Id) (bx:Box) (m:MB) (v:Nat),isC bx.ty=false→bx.pm=true→BoxAt w' A' M' w0.heap.size id m bx→BoxAt w' A' M'' w0.heap.size id ⟨m.b,v,m.sz,m.cap,m.ty⟩ ⟨v,bx.sz,bx.ty,bx.xs,bx.frz,bx.pm⟩:=fun id bx m v hpl hp g=>by
  have hnm:isMapT m.ty=false:=g.nomap (xbS hpl)
  refine ⟨rfl,g.sz,g.ty,g.capm,g.fits,g.ok,g.low,g.lt,fun h0=>?_,g.guard⟩
  obtain ⟨c,c1,c2,c3⟩:=g.cells h0
  refine ⟨c,.of hnm (c1.plain hnm),c2,fun i j hi hj=>?_⟩
  have:=c3 i j hi hj
  rw [xa4 hpl,xch hpl,hp] at this
  rw [xa4 hpl,xch (bx:=⟨v,bx.sz,bx.ty,bx.xs,bx.frz,bx.pm⟩) hpl]
  show Rel w' A' (MP M'' bx.pm) _ _
  rw [hp]
  exact this
 have hvar:∀ (n n2 v k t:Nat) (m m2:MB),isC t=false→n≠3→n≠4→BoxAt w' A' M' w0.heap.size (.b n) m ⟨0,1,t,[.osl (.b n2) v 0 k],false,false⟩→M' (.b n2)=some m2→M'' (.b n2)=some ⟨m2.b,1,m2.sz,m2.cap,m2.ty⟩→v=m2.ver →
   BoxAt w' A' M'' w0.heap.size (.b n) m ⟨0,1,t,[.osl (.b n2) 1 0 k],false,false⟩:=fun n n2 v k t m m2 hpl _ _ g hm2 hm2'' hv=>by
  have hnm:isMapT m.ty=false:=g.nomap (xbS hpl)
  have hsz:m.sz=1:=g.sz.symm
  refine ⟨g.ver,g.sz,g.ty,g.capm,g.fits,fun y hy=>?_,g.low,g.lt,fun h0=>?_,g.guard⟩
  · simp only [List.mem_singleton] at hy
    subst hy
    rw [hsz];rfl
  · obtain ⟨c,c1,c2,c3⟩:=g.cells h0
    refine ⟨c,.of hnm (c1.plain hnm),c2,fun i j hi hj=>?_⟩
    have hi0:i=0:=by simpa using hi
    have hj0:j=0:=by omega
    subst hi0 hj0
    have:=c3 0 0 (by simp) hj
    rw [xa4 hpl,xch hpl] at this
    rw [xa4 hpl,xch (bx:=⟨0,1,t,[.osl (.b n2) 1 0 k],false,false⟩) hpl]
    exact hosl n2 v k _ m2 hm2 hm2'' hv this
 have hm3:∀ m,M (.b 3)=some m→m.ver=0:=fun m hm=>by
  obtain ⟨bx,g1,g2⟩:=hR.box _ m hm
  rw [←g2.ver]
  exact hz3 bx g1
 have hm4:∀ m,M (.b 4)=some m→m.ver=0:=fun m hm=>by
  obtain ⟨bx,g1,g2⟩:=hR.box _ m hm
  rw [←g2.ver]
  exact hz4 bx g1
 have hver3:∀ m,M' (.b 3)=some m→v3=m.ver:=fun m hm=>(hbox 3 _ m rfl hm).ver
 have hver4:∀ m,M' (.b 4)=some m→v4=m.ver:=fun m hm=>(hbox 4 _ m rfl hm).ver
 have hrow:∀ n i j m,M' (.r n i j)=some m→BoxAt w' A' M' w0.heap.size (.r n i j) m tombB∧n<5:=fun n i j m hm=>by
  obtain ⟨bx,g1,g2⟩:=h4.box _ m hm
  obtain ⟨b0,q1,_⟩:=xmj g1
  have hn:n<5:=by
   have:=xe7 q1
   simpa using this
  have hp:isC b0.ty=false:=by
   match n,hn with
   | 0,_=>simp only [List.getElem?_cons_zero,Option.some.injEq] at q1;subst q1;exact p0
   | 1,_=>simp only [List.getElem?_cons_zero,List.getElem?_cons_succ,Option.some.injEq] at q1;subst q1;exact p1
   | 2,_=>simp only [List.getElem?_cons_zero,List.getElem?_cons_succ,Option.some.injEq] at q1;subst q1;exact p2
   | 3,_=>simp only [List.getElem?_cons_zero,List.getElem?_cons_succ,Option.some.injEq] at q1;subst q1;exact p3
   | 4,_=>simp only [List.getElem?_cons_zero,List.getElem?_cons_succ,Option.some.injEq] at q1;subst q1;exact p4
  rw [xer q1 hp] at g1
  simp only [Option.some.injEq] at g1
  subst g1
  exact ⟨g2,hn⟩
 have hR':HR w' A' M'' w0.heap.size [⟨0,1,t0,[x0],false,true⟩,⟨0,1,t1,[.osl (.b 3) 1 0 k3],false,false⟩,⟨0,1,t2,[.osl (.b 4) 1 0 k4],false,false⟩,⟨1,s3,t3,xs3,false,true⟩,⟨1,s4,t4,xs4,false,true⟩]:=by
  refine ⟨fun id m1 hm1=>?_,fun id id' m1 m2 k1 k2 c1 c2 he=>?_,h4.lt⟩
  · obtain ⟨m0,g1,g2,g3,g4,g5⟩:=hsrc id m1 hm1
    cases id with
    | r n i j =>
     rw [eo (.r n i j) (fun e=>by cases e) (fun e=>by cases e),g1] at hm1
     simp only [Option.some.injEq] at hm1
     subst hm1
     obtain ⟨q1,q2⟩:=hrow n i j _ g1
     refine ⟨tombB,?_,?_⟩
     · match n,q2 with
       | 0,_=>exact xer rfl p0
       | 1,_=>exact xer rfl p1
       | 2,_=>exact xer rfl p2
       | 3,_=>exact xer rfl p3
       | 4,_=>exact xer rfl p4
     · have hv:tombB.ver=m0.ver:=q1.ver
       have:=hpure (.r n i j) tombB m0 m0.ver rfl rfl q1
       exact ⟨q1.ver,this.sz,this.ty,this.capm,this.fits,this.ok,this.low,this.lt,this.cells,this.guard⟩
    | b n =>
     have hn:n<5:=by
      obtain ⟨bx,q1,_⟩:=h4.box _ m0 g1
      have:=xe7 q1
      simpa using this
     match n,hn with
     | 0,_ =>
      rw [eo (.b 0) (fun e=>by cases e) (fun e=>by cases e),g1] at hm1
      simp only [Option.some.injEq] at hm1
      subst hm1
      have q:=hbox 0 _ m0 rfl g1
      have:=hpure (.b 0) _ m0 m0.ver p0 rfl q
      exact ⟨⟨0,1,t0,[x0],false,true⟩,rfl,q.ver,this.sz,this.ty,this.capm,this.fits,this.ok,this.low,this.lt,this.cells,this.guard⟩
     | 1,_ =>
      rw [eo (.b 1) (fun e=>by cases e) (fun e=>by cases e),g1] at hm1
      simp only [Option.some.injEq] at hm1
      subst hm1
      have q:=hbox 1 _ m0 rfl g1
      have hc:0<m0.cap:=Nat.lt_of_lt_of_le Nat.zero_lt_one q.fits
      obtain ⟨c,c1,c2,c3⟩:=q.cells hc
      have hr:=c3 0 0 (by simp) (by rw [←q.sz];exact Nat.zero_lt_one)
      rw [xa4 p1,xch (bx:=⟨0,1,t1,[.osl (.b 3) v3 0 k3],false,false⟩) p1] at hr
      have hr:Rel w' A' M' _ (.osl (.b 3) v3 0 k3):=hr
      obtain ⟨m3,a1,_⟩:=Rel.osl_inv hr
      exact ⟨_,rfl,hvar 1 3 v3 k3 t1 m0 m3 p1 (by decide) (by decide) q a1 (e3 m3 a1) (hver3 m3 a1)⟩
     | 2,_ =>
      rw [eo (.b 2) (fun e=>by cases e) (fun e=>by cases e),g1] at hm1
      simp only [Option.some.injEq] at hm1
      subst hm1
      have q:=hbox 2 _ m0 rfl g1
      have hc:0<m0.cap:=Nat.lt_of_lt_of_le Nat.zero_lt_one q.fits
      obtain ⟨c,c1,c2,c3⟩:=q.cells hc
      have hr:=c3 0 0 (by simp) (by rw [←q.sz];exact Nat.zero_lt_one)
      rw [xa4 p2,xch (bx:=⟨0,1,t2,[.osl (.b 4) v4 0 k4],false,false⟩) p2] at hr
      have hr:Rel w' A' M' _ (.osl (.b 4) v4 0 k4):=hr
      obtain ⟨m4,a1,_⟩:=Rel.osl_inv hr
      exact ⟨_,rfl,hvar 2 4 v4 k4 t2 m0 m4 p2 (by decide) (by decide) q a1 (e4 m4 a1) (hver4 m4 a1)⟩
     | 3,_ =>
      rw [e3 m0 g1] at hm1
      simp only [Option.some.injEq] at hm1
      subst hm1
      exact ⟨_,rfl,hpure (.b 3) _ m0 1 p3 rfl (hbox 3 _ m0 rfl g1)⟩
     | 4,_ =>
      rw [e4 m0 g1] at hm1
      simp only [Option.some.injEq] at hm1
      subst hm1
      exact ⟨_,rfl,hpure (.b 4) _ m0 1 p4 rfl (hbox 4 _ m0 rfl g1)⟩
  · obtain ⟨n1,a1,a2,a3,_⟩:=hsrc id m1 k1
    obtain ⟨n2,b1,b2,b3,_⟩:=hsrc id' m2 k2
    exact h4.inj id id' n1 n2 a1 b1 (by omega) (by omega) (by rw [←a2,←b2,he])
 refine ⟨u,A',M'',rfl,h1,h2,⟨h3.size,h3.keep,h3.less,h3.more,fun id m hid hm=>?_,fun id m1 hm1 h0=>?_⟩,hR',?_⟩
 · obtain ⟨m',g1,g2⟩:=h3.ids id m hid hm
   by_cases q3:id=.b 3
   · subst q3
     exact ⟨_,e3 m' g1,.inr (by have:m.ver=0:=hm3 m hm;show m.ver<1;omega)⟩
   · by_cases q4:id=.b 4
     · subst q4
       exact ⟨_,e4 m' g1,.inr (by have:m.ver=0:=hm4 m hm;show m.ver<1;omega)⟩
     · exact ⟨m',by rw [eo id q3 q4];exact g1,g2⟩
 · obtain ⟨m0,g1,g2,g3,_⟩:=hsrc id m1 hm1
   rw [g2]
   exact h3.src id m0 g1 (by omega)
 · obtain ⟨vs',rfl,q1,_⟩:=h5.tuple_inv
   exact .tuple vs' [] q1 (by simp)
namespace M
open Go.Proofs
noncomputable def set2 (at0 n h:Int) (ns no:Nat) (sx ox:List AV):Option (Int×Nat×Nat×List AV×List AV):=(xjr at0 n h ns no sx ox).bind fun p =>
 br (Nat.beq p.2.1 p.2.2.2.2.2.2.1&&Nat.beq p.2.2.2.1 p.2.2.2.2.2.2.2.2) (some (p.1,p.2.2.1,p.2.2.2.2.1,p.2.2.2.2.2.1,p.2.2.2.2.2.2.2.1)) none
noncomputable def xBh:List AV→List Box→Option (Bool×AV×List Box):=omOf (sCons (sEq (pInt IntKind.i64)) (sCons (sEq (pInt IntKind.i64)) (sCons (sEq (pOwn 0 0 0 0)) (sCons (sEq (pOwn 1 0 0 0)) (sCons (sEq (pOwn 2 0 0 0)) sNil)))))
 (pCons (pBox 0 1 3 false true (pCons (pInt IntKind.i64) pNil)) (pCons (pBox 0 1 84 false false (pCons (pOsl 3 0 0) pNil)) (pCons (pBox 0 1 53 false false (pCons (pOsl 4 0 0) pNil)) (pCons (pBox 0 2 86 false true pAny) (pCons (pBox 0 2 31 false true pAny) pNil)))))
 fun (at0,(n,(_,(_,(_,_))))) ((h,_),((ns,_),((no,_),(sx,(ox,_)))))=>((set2 at0 n h ns no sx ox).isSome,(.tuple [],[⟨0,1,3,[.int .i64 ((set2 at0 n h ns no sx ox).getD (0,0,0,[],[])).1],false,true⟩,⟨0,1,84,[.osl (.b 3) 1 0 ((set2 at0 n h ns no sx ox).getD (0,0,0,[],[])).2.1],false,false⟩,⟨0,1,53,[.osl (.b 4) 1 0 ((set2 at0 n h ns no sx ox).getD (0,0,0,[],[])).2.2.1],false,false⟩,⟨1,2,86,((set2 at0 n h ns no sx ox).getD (0,0,0,[],[])).2.2.2.1,false,true⟩,⟨1,2,31,((set2 at0 n h ns no sx ox).getD (0,0,0,[],[])).2.2.2.2,false,true⟩]))
theorem xFr:OmOk Tryz.prog ITryz 68 xBh:=xfj fun vv bb rr hh' hh=>by
 obtain ⟨at0,⟨n,⟨_,⟨_,⟨_,_⟩⟩⟩⟩⟩:=vv
 obtain ⟨⟨h,_⟩,⟨⟨ns,_⟩,⟨⟨no,_⟩,⟨sx,⟨ox,_⟩⟩⟩⟩⟩:=bb
 obtain ⟨hh1,hh2⟩:=Prod.mk.inj hh
 cases hs:xjr at0 n h ns no sx ox with
 | none=>rw [show set2 at0 n h ns no sx ox=none by unfold set2;rw [hs];rfl] at hh1;simp at hh1
 | some p =>
  have hs2:set2 at0 n h ns no sx ox=br (Nat.beq p.2.1 p.2.2.2.2.2.2.1&&Nat.beq p.2.2.2.1 p.2.2.2.2.2.2.2.2) (some (p.1,p.2.2.1,p.2.2.2.2.1,p.2.2.2.2.2.1,p.2.2.2.2.2.2.2.1)) none:=by unfold set2;rw [hs];rfl
  cases ht:Nat.beq p.2.1 p.2.2.2.2.2.2.1&&Nat.beq p.2.2.2.1 p.2.2.2.2.2.2.2.2 with
  | false=>rw [hs2,ht] at hh1;simp [br] at hh1
  | true =>
   rw [ht] at hs2
   have hs3:set2 at0 n h ns no sx ox=some (p.1,p.2.2.1,p.2.2.2.2.1,p.2.2.2.2.2.1,p.2.2.2.2.2.2.2.1):=hs2
   rw [hs3] at hh2
   simp only [Option.getD_some] at hh2
   simp only [Bool.and_eq_true] at ht
   have e1:=Nat.eq_of_beq_eq_true ht.1
   have e2:=Nat.eq_of_beq_eq_true ht.2
   have hx:=xv4 at0 n h ns no sx ox p hs
   have hg:GoodM Tryz.prog ITryz 68 _ _ _ _:=xdB (p:=xic.pin) (xd3 mxTryz (inv0Ok Tryz.prog _) rfl xsi rfl Tryz.func68 rfl (by kernel_rfl) xqC hx)
   rw [←e1,←e2] at hg
   have hg2:=GoodM.aged rfl (fun bx hb=>by simp only [List.getElem?_cons_zero,List.getElem?_cons_succ,Option.some.injEq] at hb;subst hb;rfl) (fun bx hb=>by simp only [List.getElem?_cons_zero,List.getElem?_cons_succ,Option.some.injEq] at hb;subst hb;rfl) rfl rfl rfl rfl rfl hg
   obtain ⟨rfl,rfl⟩:=Prod.mk.inj hh2
   exact hg2
noncomputable def ESet:Env:=EKP1.withM 68 xBh
theorem xui:OrcOk Tryz.prog ITryz ESet:=xrr.withM xFr
end M
end Go.Sim
end
noncomputable section
set_option maxRecDepth 100000
namespace Go.Sim.M
open Go.IntKind (i64 u64 u8)
open Go.RowKit Go.Proofs
def xfF:Env:=ESet.fn 30 0 (lsOf []) (lpsOf [])
theorem xri:OrcOk Tryz.prog (ITryz.at 0) xfF:=xui.fn
theorem xoT:LoOk Tryz.prog (ITryz.at xfF.pin) xfF (loopAt Tryz.f44 0):=xaH (by kernel_rfl)
def xiQ (a:LA) (h b:Int) (f c:Nat) (g:Int) (d e:LA):Int:=if 0>((a.getD b.toNat .top).cells.getD 1 .top).toInt then 0 else ((a.getD b.toNat .top).cells.getD 1 .top).toInt
def xix (f:LA) (h g:Int) (d a:Nat) (e:Int) (b c:LA):=set2 ((f.getD g.toNat .top).cells.getD 0 .top).toInt (if 1048576<xiQ f h g d a e b c then 1048576 else xiQ f h g d a e b c) e a d c b
def xiS (f:LA) (g h:Int) (d a:Nat) (e:Int) (b c:LA):=(xix f g h d a e b c).getD (0,0,0,[],[])
def xjc (f:LA) (g h:Int) (d a:Nat) (e:Int) (b c:LA):=(xiS f g h d a e b c).snd
def xi9 (f:LA) (g h:Int) (d a:Nat) (e:Int) (b c:LA):=(xjc f g h d a e b c).fst
def xi2 (f:LA) (g h:Int) (d a:Nat) (e:Int) (b c:LA):=(xjc f g h d a e b c).snd
def xiN (f:LA) (g h:Int) (d a:Nat) (e:Int) (b c:LA):=(xi2 f g h d a e b c).snd
def xfX {T:Type} (f:LA) (h d:Int) (e a:Nat) (g:Int) (b c:LA) (δ:T) (κl:(Int×Nat×Nat×Int×LA×LA)→T) (κr:(Nat×Int×Nat×LA×LA)→T):T:=br (decide (d<h)) (br (decide (0≤d)&&decide (d<f.length)) (br (decide (d.toNat<f.length)&&((f.getD d.toNat .top).cells.length==2&&hasShs [Sh.int .i64,Sh.int .i64] (f.getD d.toNat .top).cells 0)) (br ((xix f h d e a g b c).isSome) (κl (i64.wrap (d+1),(xi2 f h d e a g b c).fst,xi9 f h d e a g b c,(xiS f h d e a g b c).fst,(xiN f h d e a g b c).snd,List.take (xi9 f h d e a g b c) (xiN f h d e a g b c).fst)) δ) δ) δ) (κr (e,g,a,b,c))
def xb6 (f:LA) (g:Int):(Int×Nat×Nat×Int×LA×LA)→Option ((Int×Nat×Nat×Int×LA×LA)⊕(Nat×Int×Nat×LA×LA)):=fun (h,d,a,e,b,c)=>xfX f g h d a e b c none (fun s=>some (.inl s)) (fun p=>some (.inr p))
def xeN (f:LA) (g:Int):(Int×Nat×Nat×Int×LA×LA)→LA×List Box:=fun (h,d,a,e,b,c)=>([AV.own 0 0 0 0,AV.own 1 0 0 0,AV.func 68 [AV.own 2 0 0 0,AV.own 1 0 0 0,AV.own 0 0 0 0],AV.list 2 f,AV.int .i64 g,AV.int .i64 h],[⟨0,1,53,[AV.osl 3 0 0 d],false,false⟩,⟨0,1,84,[AV.osl 4 0 0 a],false,false⟩,⟨0,1,3,[AV.int .i64 e],false,true⟩,⟨0,2,31,b,false,true⟩,⟨0,2,86,c,false,true⟩])
def xea (a:LA) (b:Int):(Nat×Int×Nat×LA×LA)→LR:=fun p=>(.leaf (.exit 0) [AV.own 0 0 0 0,AV.func 68 [AV.own 1 0 0 0,AV.own 2 0 0 0,AV.own 0 0 0 0]] [⟨0,1,53,[AV.osl 3 0 0 p.1],false,false⟩,⟨0,1,3,[AV.int .i64 p.2.1],false,true⟩,⟨0,1,84,[AV.osl 4 0 0 p.2.2.1],false,false⟩,⟨0,2,31,p.2.2.2.1,false,true⟩,⟨0,2,86,p.2.2.2.2,false,true⟩])
abbrev xrz (a:LA) (H:List Box):=XR Tryz.prog xfF [3,4,6,10,11,12] [3,6] [(3,2,31),(4,2,86),(4,0,0)] (loopAt Tryz.f44 0) a H
theorem xrw (a:LA) (b:Int) (s:Int×Nat×Nat×Int×LA×LA):Enc (encR (xeN a b) (xea a b)) (xb6 a b s) (xrz (xeN a b s).1 (xeN a b s).2):=by
 obtain ⟨h,f,c,g,d,e⟩:=s
 refine eV (xfX a b h f c g d e none (fun s=>some (encR (xeN a b) (xea a b) (.inl s))) (fun p=>some (encR (xeN a b) (xea a b) (.inr p)))) (by kernel_rfl) ?_;unfold xb6 xfX;repeat' first|exact eN|exact eS rfl|apply eB
def xmo:Lp:=lpOf [3,4,6,10,11,12] [3,6] [(3,2,31),(4,2,86),(4,0,0)] (pCons (pOwn 0 0 0 0) (pCons (pOwn 1 0 0 0) (pCons (pFunc 68 (pCons (pOwn 2 0 0 0) (pCons (pOwn 1 0 0 0) (pCons (pOwn 0 0 0 0) pNil)))) (pCons (pList 2 pAny) (pCons (pInt .i64) (pCons (pInt .i64) pNil)))))) (pCons (pBox 0 1 53 false false (pCons (pOsl 3 0 0) pNil)) (pCons (pBox 0 1 84 false false (pCons (pOsl 4 0 0) pNil)) (pCons (pBox 0 1 3 false true (pCons (pInt .i64) pNil)) (pCons (pBox 0 2 31 false true pAny) (pCons (pBox 0 2 86 false true pAny) pNil))))) fun (_,(_,((_,(_,(_,_))),(e,(f,(h,_)))))) ((d,_),((a,_),((g,_),(b,(c,_)))))=>((Iter (xb6 e f) (h,d,a,g,b,c)).isSome,xea e f ((Iter (xb6 e f) (h,d,a,g,b,c)).getD (0,0,0,[],[])))
theorem xqr:LoopOk Tryz.prog (ITryz.at xfF.pin) xfF.nt (loopAt Tryz.f44 0) xmo:=xcw fun j k m l=>by
 obtain ⟨_,⟨_,⟨⟨_,⟨_,⟨_,_⟩⟩⟩,⟨d,⟨e,⟨h,_⟩⟩⟩⟩⟩⟩:=j
 obtain ⟨⟨f,_⟩,⟨⟨a,_⟩,⟨⟨g,_⟩,⟨b,⟨c,_⟩⟩⟩⟩⟩:=k
 obtain ⟨i,rfl⟩:=Prod.mk.inj l
 exact xaP mxTryz (inv0Ok Tryz.prog _) rfl xri xoT (xeN d e) (xea d e) (fun p=>by simp only [xea,LR.eval];first|(simp;done)|(repeat' split<;>simp)) (xrw d e) (s:=(h,f,a,g,b,c)) (xaj i)
def xhi:Env:=ESet.fn 30 0 (lsOf []) (lpsOf [(6,xmo)])
theorem xqO:OrcOk Tryz.prog (ITryz.at 0) xhi:=xui.fn
theorem xpK:LoOk Tryz.prog (ITryz.at xhi.pin) xhi (Tryz.f44.body.getD .skip):=xbT (ls:=[loopAt Tryz.f44 0]) (by kernel_rfl) (lkC xqr lkN)
def xlk (l:LA):=Iter (xb6 l (↑l.length:Int)) (0,0,0,0,[],[])
def xlB (l:LA):=(xlk l).getD (0,0,0,[],[])
def xla (l:LA):=(xlB l).snd
def xlq (l:LA):=(xla l).snd
def xll (l:LA):=(xlq l).snd
def xk1 (l:LA):=set2 1099511627776 0 (xla l).fst (xlq l).fst (xlB l).fst (xll l).snd (xll l).fst
def xlm (l:LA):=((xk1 l).getD (0,0,0,[],[])).snd.snd
def xg6 (l:LA):=(xlm l).fst
def xgU (l:LA):=(xlm l).snd.snd
def xjC {T:Type} (l:LA) (δ:T) (κ:LA→T):T:=br ((xlk l).isSome) (br ((xk1 l).isSome) (br ((xg6 l).beq (xgU l).length&&(decide (xg6 l<4611686018427387904)&&(xgU l).all isP)) (br (decide (0+xg6 l≤(srtP (xgU l)).length)&&true) (κ (List.take (xg6 l) (List.drop 0 (srtP (xgU l))))) δ) δ) δ) δ
def xfw (l:LA):Option (LA):=xjC l none some
theorem xt3 (l:LA):Enc (fun (p:LA)=>((AV.list 2 p):AV)) (xfw l) (XF Tryz.prog xhi Tryz.f44 (Tryz.f44.body.getD .skip) [AV.list 2 l]):=by
 refine eV (xjC l none (fun (p:LA)=>some ((AV.list 2 p):AV))) (by kernel_rfl) ?_;unfold xfw xjC;repeat' first|exact eN|exact eS rfl|apply eB
def xpu:LA→Option (Bool×AV):=ocOf (sCons (sList 2 pAny) sNil) fun (l,_)=>((xfw l).isSome,(AV.list 2 ((xfw l).getD [])))
theorem xuh:OcOk Tryz.prog ITryz 44 (xpu):=xcd fun c f e=>by
 obtain ⟨l,_⟩:=c
 obtain ⟨a,b⟩:=Prod.mk.inj e
 refine xbd (p:=xhi.pin) (xbI mxTryz (inv0Ok Tryz.prog _) rfl xqO Tryz.func44 rfl (by kernel_rfl) xpK ((xt3 _ _ (xaj (d:=[]) a)).trans ?_))
 exact congrArg some b
def xwF:Env:=ESet.with 44 xpu
theorem xu2:OrcOk Tryz.prog ITryz xwF:=xui.with xuh
def xgp:Env:=xwF.fn 10 0 (lsOf []) (lpsOf [])
theorem xqh:OrcOk Tryz.prog (ITryz.at 0) xgp:=xu2.fn
theorem xpf:LoOk Tryz.prog (ITryz.at xgp.pin) xgp (Tryz.f43.body.getD .skip):=xaH (by kernel_rfl)
def xiw {T:Type} (a:LA) (δ:T) (κ:LA→T):T:=br ((↑a.length:Int)==1) (κ (a)) (br ((xcI a).isSome) (br ((xfw ((xcI a).getD [])).isSome) (κ ((xfw ((xcI a).getD [])).getD [])) δ) δ)
def xc8 (a:LA):Option (LA):=xiw a none some
theorem xsO (a:LA):Enc (fun (p:LA)=>((AV.list 2 p):AV)) (xc8 a) (XF Tryz.prog xgp Tryz.f43 (Tryz.f43.body.getD .skip) [AV.list 2 a]):=by
 refine eV (xiw a none (fun (p:LA)=>some ((AV.list 2 p):AV))) (by kernel_rfl) ?_;unfold xc8 xiw;repeat' first|exact eN|exact eS rfl|apply eB
def xoj:LA→Option (Bool×AV):=ocOf (sCons (sList 2 pAny) sNil) fun (a,_)=>((xc8 a).isSome,(AV.list 2 ((xc8 a).getD [])))
theorem xtC:OcOk Tryz.prog ITryz 43 (xoj):=xcd fun c f e=>by
 obtain ⟨g,_⟩:=c
 obtain ⟨a,b⟩:=Prod.mk.inj e
 refine xbd (p:=xgp.pin) (xbI mxTryz (inv0Ok Tryz.prog _) rfl xqh Tryz.func43 rfl (by kernel_rfl) xpf ((xsO _ _ (xaj (d:=[]) a)).trans ?_))
 exact congrArg some b
def xAy:Env:=xwF.with 43 xoj
theorem xCk:OrcOk Tryz.prog ITryz xAy:=xu2.with xtC
abbrev EKP3:Env:=xAy
theorem xEW:OrcOk Tryz.prog ITryz EKP3:=xCk
end Go.Sim.M
end
noncomputable section
set_option maxRecDepth 100000
namespace Go.Sim.M
open Go.IntKind (i64 u64 u8)
open Go.RowKit Go.Proofs
def xtk {T:Type} (b e:LA) (f:Int) (c:Nat) (a:Int) (d:LA) (δ:T) (κl:(Nat×Int×LA)→T) (κr:(Nat×LA)→T):T:=br (decide (a<f)) (br (decide (0≤a)&&decide (a<e.length)) (br (decide (a.toNat<e.length)&&((e.getD a.toNat .top).cells.length==2&&hasShs [Sh.int .i64,Sh.int .i64] (e.getD a.toNat .top).cells 0)) (br (xeB ((e.getD a.toNat .top).cells.getD 0 .top).toInt ((e.getD a.toNat .top).cells.getD 1 .top).toInt) (br (c==d.length&&(decide ((c+2)*24≤140737488355328)&&decide (c+2≤4611686018427387904))) (κl (c+2,i64.wrap (a+1),d++[AV.agg [AV.int .i64 ((e.getD a.toNat .top).cells.getD 0 .top).toInt,AV.int .i64 1,AV.int .i64 0],AV.agg [AV.int .i64 ((e.getD a.toNat .top).cells.getD 1 .top).toInt,AV.int .i64 (-1),AV.int .i64 0]])) δ) (κl (c,i64.wrap (a+1),d))) δ) δ) (κr (c,d))
def xms (b d:LA) (e:Int):(Nat×Int×LA)→Option ((Nat×Int×LA)⊕(Nat×LA)):=fun (c,f,a)=>xtk b d e c f a none (fun s=>some (.inl s)) (fun p=>some (.inr p))
def xta {T:Type} (d:LA) (e:Int) (b:Nat) (a:Int) (c:LA) (δ:T) (κl:(Nat×Int×LA)→T) (κr:(Nat×LA)→T):T:=br (decide (a<e)) (br (decide (0≤a)&&decide (a<d.length)) (br (decide (a.toNat<d.length)&&((d.getD a.toNat .top).cells.length==2&&hasShs [Sh.int .i64,Sh.int .i64] (d.getD a.toNat .top).cells 0)) (br (xeB ((d.getD a.toNat .top).cells.getD 0 .top).toInt ((d.getD a.toNat .top).cells.getD 1 .top).toInt) (br (b==c.length&&(decide ((b+2)*24≤140737488355328)&&decide (b+2≤4611686018427387904))) (κl (b+2,i64.wrap (a+1),c++[AV.agg [AV.int .i64 ((d.getD a.toNat .top).cells.getD 0 .top).toInt,AV.int .i64 0,AV.int .i64 1],AV.agg [AV.int .i64 ((d.getD a.toNat .top).cells.getD 1 .top).toInt,AV.int .i64 0,AV.int .i64 (-1)]])) δ) (κl (b,i64.wrap (a+1),c))) δ) δ) (κr (b,c))
def xqZ (c:LA) (d:Int):(Nat×Int×LA)→Option ((Nat×Int×LA)⊕(Nat×LA)):=fun (b,e,a)=>xta c d b e a none (fun s=>some (.inl s)) (fun p=>some (.inr p))
def xp7 (a b:LA):=(Iter (xms b a (↑a.length:Int)) (0,0,[])).getD (0,[])
def xp8 (a b:LA):=Iter (xqZ b (↑b.length:Int)) ((xp7 a b).fst,0,(xp7 a b).snd)
def xqd (a b:LA):=(xp8 a b).getD (0,[])
def xkf (a b:LA):=(xqd a b).fst
def xkg (a b:LA):=(xqd a b).snd
def xwh {T:Type} (a b:LA) (δ:T) (κ:LA→T):T:=br ((Iter (xms b a (↑a.length:Int)) (0,0,[])).isSome) (br ((xp8 a b).isSome) (br ((xkf a b).beq (xkg a b).length&&(decide (xkf a b<4611686018427387904)&&(xkg a b).all isE)) (br (decide (0+xkf a b≤(srtE (xkg a b)).length)&&true) (κ (List.take (xkf a b) (List.drop 0 (srtE (xkg a b))))) δ) δ) δ) δ
def xsS (a b:LA):Option (LA):=xwh a b none some
abbrev xBd:Env:=EKP3
theorem xAx:OrcOk Tryz.prog ITryz xBd:=xEW
def xBv (a b:Bool):Bool:=((a))
abbrev xCe:Env:=xBd
theorem xA1:OrcOk Tryz.prog ITryz xCe:=xAx
def xiF (l:LA) (i:Int):=decide (0≤i)&&decide (i<l.length)
def xrI {T:Type} (l:LA) (e:Nat) (d b c i:Int) (a:LA) (δ:T) (κl:(Int×Int×Int×LA)→T) (κr:(Int×Int×Int×LA)→T):T:=br (decide (i<l.length)) (br (xiF l i) (br (decide (i.toNat<l.length)&&hasSh1 (Sh.int .i64) ((l.getD i.toNat .top).cells.getD 0 .top)) (br (((l.getD i.toNat .top).cells.getD 0 .top).toInt==d) (br (xiF l i) (br (decide (i.toNat<l.length)&&hasSh1 (Sh.int .i64) ((l.getD i.toNat .top).cells.getD 1 .top)) (br (xiF l i) (br (decide (i.toNat<l.length)&&hasSh1 (Sh.int .i64) ((l.getD i.toNat .top).cells.getD 2 .top)) (κl (i64.wrap (b+((l.getD i.toNat .top).cells.getD 1 .top).toInt),i64.wrap (c+((l.getD i.toNat .top).cells.getD 2 .top).toInt),i64.wrap (i+1),a)) δ) δ) δ) δ) (κr (b,c,i,a))) δ) δ) (κr (b,c,i,a))
def xkx (l:LA) (b:Nat) (c:Int):(Int×Int×Int×LA)→Option ((Int×Int×Int×LA)⊕(Int×Int×Int×LA)):=fun (d,e,i,a)=>xrI l b c d e i a none (fun s=>some (.inl s)) (fun p=>some (.inr p))
def xg2 (a:Nat):=decide (0≤i64.wrap ((↑a:Int) - 1))&&decide (i64.wrap ((↑a:Int) - 1)<(↑a:Int))
def xlV (l:LA) (b:Nat) (d e i c:Int) (a:LA):=(Iter (xkx l b c) (d,e,i,a)).getD (0,0,0,[])
def xbs (a:Nat):Nat:=0+(i64.wrap ((↑a:Int) - 1)).toNat
def xmK (l:LA) (b:Nat) (d e i c:Int) (a:LA):=(xlV l b d e i c a).snd
def xcF (l:LA) (b:Nat) (d e i c:Int) (a:LA):=(xlV l b d e i c a).fst
def xmr (l:LA) (b:Nat) (d e i c:Int) (a:LA):=(xmK l b d e i c a).snd
def xcH (l:LA) (b:Nat) (d e i c:Int) (a:LA):=(xmK l b d e i c a).fst
def xaF (l:LA) (b:Nat) (d e i c:Int) (a:LA):=(xmr l b d e i c a).snd
def xmF (l:LA) (b:Nat) (d e i c:Int) (a:LA):=xBv (decide (xcF l b d e i c a>0)) (decide (xcH l b d e i c a>0))
def xaI (l:LA) (b:Nat) (d e i c:Int) (a:LA):=(xmr l b d e i c a).fst
def xg7 (l:LA) (a:Nat) (d e i c:Int) (b:LA):=decide (xbs a<(xaF l a d e i c b).length)
def xmm (l:LA) (b:Nat) (d e i c:Int) (a:LA):=decide (xaI l b d e i c a<l.length)
def xrB {T:Type} (l:LA) (a:Nat) (d e i c:Int) (b:LA) (δ:T) (κl:(Nat×Int×Int×Int×Int×LA)→T) (κr:(Nat×LA)→T):T:=br (decide (c<1099511627776)) (br ((Iter (xkx l a c) (d,e,i,b)).isSome) (br (xmm l a d e i c b) (br (decide (0≤xaI l a d e i c b)&&xmm l a d e i c b) (br (decide ((xaI l a d e i c b).toNat<l.length)&&hasSh1 (Sh.int .i64) ((l.getD (xaI l a d e i c b).toNat .top).cells.getD 0 .top)) (br (xmF l a d e i c b) (br (decide ((↑a:Int)>0)) (br (xg2 a) (br (xg7 l a d e i c b&&hasSh1 (Sh.int .i64) (((xaF l a d e i c b).getD (xbs a) .top).cells.getD 1 .top)) (br ((((xaF l a d e i c b).getD (xbs a) .top).cells.getD 1 .top).toInt==c) (br (xg2 a) (br (xg7 l a d e i c b) (κl (a,xcF l a d e i c b,xcH l a d e i c b,xaI l a d e i c b,((l.getD (xaI l a d e i c b).toNat .top).cells.getD 0 .top).toInt,(xaF l a d e i c b).set (xbs a) (AV.agg (List.take 1 ((xaF l a d e i c b).getD (xbs a) .top).cells++[AV.int .i64 ((l.getD (xaI l a d e i c b).toNat .top).cells.getD 0 .top).toInt]++List.drop 2 ((xaF l a d e i c b).getD (xbs a) .top).cells)))) δ) δ) (br (a==(xaF l a d e i c b).length&&(decide ((a+1)*16≤140737488355328)&&decide (a+1≤4611686018427387904))) (κl (a+1,xcF l a d e i c b,xcH l a d e i c b,xaI l a d e i c b,((l.getD (xaI l a d e i c b).toNat .top).cells.getD 0 .top).toInt,xaF l a d e i c b++[AV.agg [AV.int .i64 c,AV.int .i64 ((l.getD (xaI l a d e i c b).toNat .top).cells.getD 0 .top).toInt]])) δ)) δ) δ) (br (a==(xaF l a d e i c b).length&&(decide ((a+1)*16≤140737488355328)&&decide (a+1≤4611686018427387904))) (κl (a+1,xcF l a d e i c b,xcH l a d e i c b,xaI l a d e i c b,((l.getD (xaI l a d e i c b).toNat .top).cells.getD 0 .top).toInt,xaF l a d e i c b++[AV.agg [AV.int .i64 c,AV.int .i64 ((l.getD (xaI l a d e i c b).toNat .top).cells.getD 0 .top).toInt]])) δ)) (κl (a,xcF l a d e i c b,xcH l a d e i c b,xaI l a d e i c b,((l.getD (xaI l a d e i c b).toNat .top).cells.getD 0 .top).toInt,xaF l a d e i c b))) δ) δ) (br (xmF l a d e i c b) (br (decide ((↑a:Int)>0)) (br (xg2 a) (br (xg7 l a d e i c b&&hasSh1 (Sh.int .i64) (((xaF l a d e i c b).getD (xbs a) .top).cells.getD 1 .top)) (br ((((xaF l a d e i c b).getD (xbs a) .top).cells.getD 1 .top).toInt==c) (br (xg2 a) (br (xg7 l a d e i c b) (κl (a,xcF l a d e i c b,xcH l a d e i c b,xaI l a d e i c b,1099511627776,(xaF l a d e i c b).set (xbs a) (AV.agg (List.take 1 ((xaF l a d e i c b).getD (xbs a) .top).cells++[AV.int .i64 1099511627776]++List.drop 2 ((xaF l a d e i c b).getD (xbs a) .top).cells)))) δ) δ) (br (a==(xaF l a d e i c b).length&&(decide ((a+1)*16≤140737488355328)&&decide (a+1≤4611686018427387904))) (κl (a+1,xcF l a d e i c b,xcH l a d e i c b,xaI l a d e i c b,1099511627776,xaF l a d e i c b++[AV.agg [AV.int .i64 c,AV.int .i64 1099511627776]])) δ)) δ) δ) (br (a==(xaF l a d e i c b).length&&(decide ((a+1)*16≤140737488355328)&&decide (a+1≤4611686018427387904))) (κl (a+1,xcF l a d e i c b,xcH l a d e i c b,xaI l a d e i c b,1099511627776,xaF l a d e i c b++[AV.agg [AV.int .i64 c,AV.int .i64 1099511627776]])) δ)) (κl (a,xcF l a d e i c b,xcH l a d e i c b,xaI l a d e i c b,1099511627776,xaF l a d e i c b)))) δ) (κr (a,b))
def xpY (l:LA):(Nat×Int×Int×Int×Int×LA)→Option ((Nat×Int×Int×Int×Int×LA)⊕(Nat×LA)):=fun (b,d,e,i,c,a)=>xrB l b d e i c a none (fun s=>some (.inl s)) (fun p=>some (.inr p))
def xov (a b:LA):=Iter (xpY ((xsS a b).getD [])) (0,0,0,0,0,[])
def xod (a b:LA):=(xov a b).getD (0,[])
def xob (a b:LA):=(xod a b).snd
def xn3 (a b:LA):=(xod a b).fst
def xuO {T:Type} (a b:LA) (δ:T) (κ:LA→T):T:=br ((xsS a b).isSome) (br ((xov a b).isSome) (br (decide (0+xn3 a b≤(xob a b).length)&&true) (κ (List.take (xn3 a b) (List.drop 0 (xob a b)))) δ) δ) δ
def xqv (a b:LA):Option (LA):=xuO a b none some
abbrev xCu:Env:=xCe
theorem xCB:OrcOk Tryz.prog ITryz xCu:=xA1
def xBz {T:Type} (l:LA) (δ:T) (κ:LA→T):T:=br ((xqv l []).isSome) (κ ((xqv l []).getD [])) δ
def xro (l:LA):Option (LA):=xBz l none some
abbrev xCh:Env:=xCu
theorem xBb:OrcOk Tryz.prog ITryz xCh:=xCB
abbrev EKP4:Env:=xCh
theorem xrt:OrcOk Tryz.prog ITryz EKP4:=xBb
end Go.Sim.M
end
noncomputable section
set_option maxRecDepth 100000
namespace Go.Sim.M
open Go.IntKind (i64 u64 u8)
open Go.RowKit Go.Proofs
def xd8:Env:=EKP4.fn 38 0 (lsOf [42]) (lpsOf [])
theorem xoJ:OrcOk Tryz.prog (ITryz.at 0) xd8:=xrt.fn
theorem xmX:LoOk Tryz.prog (ITryz.at xd8.pin) xd8 (loopAt Tryz.f42 1):=xaH (by kernel_rfl)
def xeu {T:Type} (h:LA) (i j:Int) (e:LA) (f:Int) (a:Nat) (b:Int) (c d g:LA) (δ:T) (κl:(Nat×Int×LA×LA×LA)→T) (κr:(Nat×LA)→T):T:=br (decide (b<f)) (br (decide (0≤b)&&decide (b<e.length)) (br (decide (b.toNat<e.length)&&((e.getD b.toNat .top).cells.length==2&&hasShs [Sh.int .i64,Sh.int .i64] (e.getD b.toNat .top).cells 0)) (br (decide (d.length*32≤140737488355328)&&decide (d.length≤4611686018427387904)) (br (decide (0+d.length≤d.length)&&true&&true&&true&&true) (br (a==c.length&&(decide ((a+1)*40≤140737488355328)&&decide (a+1≤4611686018427387904))) (κl (a+1,i64.wrap (b+1),c++[AV.agg [AV.list 3 (List.take d.length (List.drop 0 d)),AV.int .i64 ((e.getD b.toNat .top).cells.getD 0 .top).toInt,AV.int .i64 ((e.getD b.toNat .top).cells.getD 1 .top).toInt]],d,g)) δ) δ) δ) δ) δ) (κr (a,c))
def xbm (c:LA) (d e:Int) (f:LA) (g:Int):(Nat×Int×LA×LA×LA)→Option ((Nat×Int×LA×LA×LA)⊕(Nat×LA)):=fun (b,h,a,i,j)=>xeu c d e f g b h a i j none (fun s=>some (.inl s)) (fun p=>some (.inr p))
def xdu (c:LA) (d e:Int) (f:LA) (g:Int):(Nat×Int×LA×LA×LA)→LA×List Box:=fun (b,h,a,i,j)=>([AV.func 43 [],AV.osl 0 0 0 b,AV.own 1 0 0 0,AV.list 2 c,AV.int .i64 d,AV.int .i64 e,AV.list 2 f,AV.int .i64 g,AV.int .i64 h],[⟨0,3,42,a,false,true⟩,⟨0,2,83,[AV.agg [AV.list 3 i,AV.list 2 j]],false,true⟩])
def xcZ (a:LA) (b c:Int) (d:LA) (e:Int):(Nat×LA)→LR:=fun p=>(.leaf (.exit 2) [AV.func 43 [],AV.osl 0 0 0 p.1,AV.list 2 a,AV.int .i64 b,AV.int .i64 c] [⟨0,3,42,p.2,false,true⟩])
abbrev xpq (a:LA) (H:List Box):=XR Tryz.prog xd8 [1,5,7,11,12,13,20,21,22] [1,5,11,12,13] [(5,3,42)] (loopAt Tryz.f42 1) a H
theorem xpp (a:LA) (b c:Int) (d:LA) (e:Int) (s:Nat×Int×LA×LA×LA):Enc (encR (xdu a b c d e) (xcZ a b c d e)) (xbm a b c d e s) (xpq (xdu a b c d e s).1 (xdu a b c d e s).2):=by
 obtain ⟨g,h,f,i,j⟩:=s
 refine eV (xeu a b c d e g h f i j none (fun s=>some (encR (xdu a b c d e) (xcZ a b c d e) (.inl s))) (fun p=>some (encR (xdu a b c d e) (xcZ a b c d e) (.inr p)))) (by kernel_rfl) ?_;unfold xbm xeu;repeat' first|exact eN|exact eS rfl|apply eB
def xhs:Lp:=lpOf [1,5,7,11,12,13,20,21,22] [1,5,11,12,13] [(5,3,42)] (pCons (pFunc 43 pNil) (pCons (pOsl 0 0 0) (pCons (pOwn 1 0 0 0) (pCons (pList 2 pAny) (pCons (pInt .i64) (pCons (pInt .i64) (pCons (pList 2 pAny) (pCons (pInt .i64) (pCons (pInt .i64) pNil))))))))) (pCons (pBox 0 3 42 false true pAny) (pCons (pBox 0 2 83 false true (pCons (pAgg (pCons (pList 3 pAny) (pCons (pList 2 pAny) pNil))) pNil)) pNil)) fun (_,(b,(_,(c,(d,(e,(f,(g,(h,_))))))))) (a,(((i,(j,_)),_),_))=>((Iter (xbm c d e f g) (b,h,a,i,j)).isSome,xcZ c d e f g ((Iter (xbm c d e f g) (b,h,a,i,j)).getD (0,[])))
theorem xjO:LoopOk Tryz.prog (ITryz.at xd8.pin) xd8.nt (loopAt Tryz.f42 1) xhs:=xcw fun l m o n=>by
 obtain ⟨_,⟨g,⟨_,⟨a,⟨b,⟨c,⟨d,⟨e,⟨h,_⟩⟩⟩⟩⟩⟩⟩⟩⟩:=l
 obtain ⟨f,⟨⟨⟨i,⟨j,_⟩⟩,_⟩,_⟩⟩:=m
 obtain ⟨k,rfl⟩:=Prod.mk.inj n
 exact xaP mxTryz (inv0Ok Tryz.prog _) rfl xoJ xmX (xdu a b c d e) (xcZ a b c d e) (fun p=>by simp only [xcZ,LR.eval];first|(simp;done)|(repeat' split<;>simp)) (xpp a b c d e) (s:=(g,h,f,i,j)) (xaj k)
def xed:Env:=EKP4.fn 38 0 (lsOf [42]) (lpsOf [(6,xhs)])
theorem xo0:OrcOk Tryz.prog (ITryz.at 0) xed:=xrt.fn
theorem xmS:LoOk Tryz.prog (ITryz.at xed.pin) xed (loopAt Tryz.f42 0):=xbT (ls:=[loopAt Tryz.f42 1]) (by kernel_rfl) (lkC xjO lkN)
def xhr (a:LA) (e:Int) (d:Nat) (b:Int) (c:LA):=Iter (xbm a e b ((xc8 ((a.getD b.toNat .top).cells.getD 1 .top).toList).getD []) (↑((xc8 ((a.getD b.toNat .top).cells.getD 1 .top).toList).getD []).length:Int)) (d,0,c,((a.getD b.toNat .top).cells.getD 0 .top).toList,((a.getD b.toNat .top).cells.getD 1 .top).toList)
def xhm (c:LA) (d:Int) (b:Nat) (e:Int) (a:LA):=(xhr c d b e a).getD (0,[])
def xew {T:Type} (c:LA) (e:Int) (d:Nat) (a:Int) (b:LA) (δ:T) (κl:(Nat×Int×LA)→T) (κr:(Nat×LA)→T):T:=br (decide (a<e)) (br (decide (0≤a)&&decide (a<c.length)) (br (decide (a.toNat<c.length)&&((c.getD a.toNat .top).cells.length==2&&hasShs [Sh.list 3,Sh.list 2] (c.getD a.toNat .top).cells 0)) (br ((xc8 ((c.getD a.toNat .top).cells.getD 1 .top).toList).isSome) (br ((xhr c e d a b).isSome) (κl ((xhm c e d a b).fst,i64.wrap (a+1),(xhm c e d a b).snd)) δ) δ) δ) δ) (κr (d,b))
def xbJ (c:LA) (d:Int):(Nat×Int×LA)→Option ((Nat×Int×LA)⊕(Nat×LA)):=fun (b,e,a)=>xew c d b e a none (fun s=>some (.inl s)) (fun p=>some (.inr p))
def xdt (c:LA) (d:Int):(Nat×Int×LA)→LA×List Box:=fun (b,e,a)=>([AV.func 43 [],AV.osl 0 0 0 b,AV.list 2 c,AV.int .i64 d,AV.int .i64 e],[⟨0,3,42,a,false,true⟩])
def xcY (a:LA) (b:Int):(Nat×LA)→LR:=fun p=>(.leaf (.exit 0) [AV.osl 0 0 0 p.1] [⟨0,3,42,p.2,false,true⟩])
abbrev xpn (a:LA) (H:List Box):=XR Tryz.prog xed [1,5,11,12,13] [5] [(5,3,42)] (loopAt Tryz.f42 0) a H
theorem xpd (a:LA) (b:Int) (s:Nat×Int×LA):Enc (encR (xdt a b) (xcY a b)) (xbJ a b s) (xpn (xdt a b s).1 (xdt a b s).2):=by
 obtain ⟨d,e,c⟩:=s
 refine eV (xew a b d e c none (fun s=>some (encR (xdt a b) (xcY a b) (.inl s))) (fun p=>some (encR (xdt a b) (xcY a b) (.inr p)))) (by kernel_rfl) ?_;unfold xbJ xew;repeat' first|exact eN|exact eS rfl|apply eB
def xj6:Lp:=lpOf [1,5,11,12,13] [5] [(5,3,42)] (pCons (pFunc 43 pNil) (pCons (pOsl 0 0 0) (pCons (pList 2 pAny) (pCons (pInt .i64) (pCons (pInt .i64) pNil))))) (pCons (pBox 0 3 42 false true pAny) pNil) fun (_,(b,(c,(d,(e,_))))) (a,_)=>((Iter (xbJ c d) (b,e,a)).isSome,xcY c d ((Iter (xbJ c d) (b,e,a)).getD (0,[])))
theorem xnX:LoopOk Tryz.prog (ITryz.at xed.pin) xed.nt (loopAt Tryz.f42 0) xj6:=xcw fun g h j i=>by
 obtain ⟨_,⟨d,⟨a,⟨b,⟨e,_⟩⟩⟩⟩⟩:=g
 obtain ⟨c,_⟩:=h
 obtain ⟨f,rfl⟩:=Prod.mk.inj i
 exact xaP mxTryz (inv0Ok Tryz.prog _) rfl xo0 xmS (xdt a b) (xcY a b) (fun p=>by simp only [xcY,LR.eval];first|(simp;done)|(repeat' split<;>simp)) (xpd a b) (s:=(d,e,c)) (xaj f)
def xe4:Env:=EKP4.fn 38 0 (lsOf [42]) (lpsOf [(6,xhs),(3,xj6)])
theorem xoA:OrcOk Tryz.prog (ITryz.at 0) xe4:=xrt.fn
theorem xnv:LoOk Tryz.prog (ITryz.at xe4.pin) xe4 (Tryz.f42.body.getD .skip):=xbT (ls:=[loopAt Tryz.f42 0,loopAt Tryz.f42 1]) (by kernel_rfl) (lkC xnX (lkC xjO lkN))
def xio (l:LA):=Iter (xbJ ((xeg l).getD []) (↑((xeg l).getD []).length:Int)) (0,0,[])
def xin (l:LA):=(xio l).getD (0,[])
def xit (l:LA):=(xin l).snd
def xil (l:LA):=(xin l).fst
def xhh {T:Type} (l:LA) (δ:T) (κ:LA→T):T:=br ((xeg l).isSome) (br ((xio l).isSome) (br (decide (0+xil l≤(xit l).length)&&true) (κ (List.take (xil l) (List.drop 0 (xit l)))) δ) δ) δ
def xej (l:LA):Option (LA):=xhh l none some
theorem xqF (l:LA):Enc (fun (p:LA)=>((AV.list 3 p):AV)) (xej l) (XF Tryz.prog xe4 Tryz.f42 (Tryz.f42.body.getD .skip) [AV.list 3 l,AV.func (43:FuncId) []]):=by
 refine eV (xhh l none (fun (p:LA)=>some ((AV.list 3 p):AV))) (by kernel_rfl) ?_;unfold xej xhh;repeat' first|exact eN|exact eS rfl|apply eB
def xmv:LA→Option (Bool×AV):=ocOf (sCons (sList 3 pAny) (sCons (sEq (pFunc (43:FuncId) pNil)) sNil)) fun (l,(_,_))=>((xej l).isSome,(AV.list 3 ((xej l).getD [])))
theorem xq3:OcOk Tryz.prog ITryz 42 (xmv):=xcd fun c f e=>by
 obtain ⟨l,⟨_,_⟩⟩:=c
 obtain ⟨a,b⟩:=Prod.mk.inj e
 refine xbd (p:=xe4.pin) (xbI mxTryz (inv0Ok Tryz.prog _) rfl xoA Tryz.func42 rfl (by kernel_rfl) xnv ((xqF _ _ (xaj (d:=[]) a)).trans ?_))
 exact congrArg some b
def xw0:Env:=EKP4.with 42 xmv
theorem xve:OrcOk Tryz.prog ITryz xw0:=xrt.with xq3
def xg1:Env:=xw0.fn 5 0 (lsOf []) (lpsOf [])
theorem xqR:OrcOk Tryz.prog (ITryz.at 0) xg1:=xve.fn
theorem xpN:LoOk Tryz.prog (ITryz.at xg1.pin) xg1 (Tryz.f14.body.getD .skip):=xaH (by kernel_rfl)
def xjq {T:Type} (l:LA) (δ:T) (κ:LA→T):T:=br ((xej l).isSome) (κ ((xej l).getD [])) δ
def xdH (l:LA):Option (LA):=xjq l none some
theorem xuo (l:LA):Enc (fun (p:LA)=>((AV.list 3 p):AV)) (xdH l) (XF Tryz.prog xg1 Tryz.f14 (Tryz.f14.body.getD .skip) [AV.list 3 l]):=by
 refine eV (xjq l none (fun (p:LA)=>some ((AV.list 3 p):AV))) (by kernel_rfl) ?_;unfold xdH xjq;repeat' first|exact eN|exact eS rfl|apply eB
def xpm:LA→Option (Bool×AV):=ocOf (sCons (sList 3 pAny) sNil) fun (l,_)=>((xdH l).isSome,(AV.list 3 ((xdH l).getD [])))
theorem xuM:OcOk Tryz.prog ITryz 14 (xpm):=xcd fun c f e=>by
 obtain ⟨l,_⟩:=c
 obtain ⟨a,b⟩:=Prod.mk.inj e
 refine xbd (p:=xg1.pin) (xbI mxTryz (inv0Ok Tryz.prog _) rfl xqR Tryz.func14 rfl (by kernel_rfl) xpN ((xuo _ _ (xaj (d:=[]) a)).trans ?_))
 exact congrArg some b
def xCF:Env:=xw0.with 14 xpm
theorem xAw:OrcOk Tryz.prog ITryz xCF:=xve.with xuM
def xpk {T:Type} (h:LA) (i j:Int) (e:LA) (f:Int) (a:Nat) (b:Int) (c d g:LA) (δ:T) (κl:(Nat×Int×LA×LA×LA)→T) (κr:(Nat×LA)→T):T:=br (decide (b<f)) (br (decide (0≤b)&&decide (b<e.length)) (br (decide (b.toNat<e.length)&&((e.getD b.toNat .top).cells.length==2&&hasShs [Sh.int .i64,Sh.int .i64] (e.getD b.toNat .top).cells 0)) (br (decide (d.length*32≤140737488355328)&&decide (d.length≤4611686018427387904)) (br (decide (0+d.length≤d.length)&&true&&true&&true&&true) (br (a==c.length&&(decide ((a+1)*40≤140737488355328)&&decide (a+1≤4611686018427387904))) (κl (a+1,i64.wrap (b+1),c++[AV.agg [AV.list 3 (List.take d.length (List.drop 0 d)),AV.int .i64 ((e.getD b.toNat .top).cells.getD 0 .top).toInt,AV.int .i64 ((e.getD b.toNat .top).cells.getD 1 .top).toInt]],d,g)) δ) δ) δ) δ) δ) (κr (a,c))
def xiC (c:LA) (d e:Int) (f:LA) (g:Int):(Nat×Int×LA×LA×LA)→Option ((Nat×Int×LA×LA×LA)⊕(Nat×LA)):=fun (b,h,a,i,j)=>xpk c d e f g b h a i j none (fun s=>some (.inl s)) (fun p=>some (.inr p))
def xho (a:LA) (e:Int) (d:Nat) (b:Int) (c:LA):=Iter (xiC a e b ((xro ((a.getD b.toNat .top).cells.getD 1 .top).toList).getD []) (↑((xro ((a.getD b.toNat .top).cells.getD 1 .top).toList).getD []).length:Int)) (d,0,c,((a.getD b.toNat .top).cells.getD 0 .top).toList,((a.getD b.toNat .top).cells.getD 1 .top).toList)
def xhn (c:LA) (d:Int) (b:Nat) (e:Int) (a:LA):=(xho c d b e a).getD (0,[])
def xhC {T:Type} (c:LA) (e:Int) (d:Nat) (a:Int) (b:LA) (δ:T) (κl:(Nat×Int×LA)→T) (κr:(Nat×LA)→T):T:=br (decide (a<e)) (br (decide (0≤a)&&decide (a<c.length)) (br (decide (a.toNat<c.length)&&((c.getD a.toNat .top).cells.length==2&&hasShs [Sh.list 3,Sh.list 2] (c.getD a.toNat .top).cells 0)) (br ((xro ((c.getD a.toNat .top).cells.getD 1 .top).toList).isSome) (br ((xho c e d a b).isSome) (κl ((xhn c e d a b).fst,i64.wrap (a+1),(xhn c e d a b).snd)) δ) δ) δ) δ) (κr (d,b))
def xgv (c:LA) (d:Int):(Nat×Int×LA)→Option ((Nat×Int×LA)⊕(Nat×LA)):=fun (b,e,a)=>xhC c d b e a none (fun s=>some (.inl s)) (fun p=>some (.inr p))
abbrev xAJ:Env:=xCF
theorem xCp:OrcOk Tryz.prog ITryz xAJ:=xAw
abbrev xB6:Env:=xAJ
theorem xBo:OrcOk Tryz.prog ITryz xB6:=xCp
abbrev EKP5:Env:=xB6
theorem xE6:OrcOk Tryz.prog ITryz EKP5:=xBo
end Go.Sim.M
end
noncomputable section
set_option maxRecDepth 100000
namespace Go.Sim.M
open Go.IntKind (i64 u64 u8)
open Go.RowKit Go.Proofs
abbrev xD5:Env:=EKP5
theorem xDd:OrcOk Tryz.prog ITryz xD5:=xE6
abbrev xD4:Env:=xD5
theorem xDy:OrcOk Tryz.prog ITryz xD4:=xDd
abbrev xDU:Env:=xD4
theorem xC1:OrcOk Tryz.prog ITryz xDU:=xDy
abbrev xEb:Env:=xDU
theorem xDE:OrcOk Tryz.prog ITryz xEb:=xC1
abbrev xEp:Env:=xEb
theorem xCx:OrcOk Tryz.prog ITryz xEp:=xDE
abbrev xDX:Env:=xEp
theorem xDi:OrcOk Tryz.prog ITryz xDX:=xCx
abbrev xD0:Env:=xDX
theorem xDc:OrcOk Tryz.prog ITryz xD0:=xDi
abbrev xEn:Env:=xD0
theorem xDI:OrcOk Tryz.prog ITryz xEn:=xDc
abbrev EKV:Env:=xEn
theorem xFK:OrcOk Tryz.prog ITryz EKV:=xDI
end Go.Sim.M
end
noncomputable section
set_option maxRecDepth 100000
namespace Go.Sim.M
open Go.IntKind (i64 u64 u8)
open Go.RowKit Go.Proofs
abbrev xEr:Env:=EKV
theorem xDg:OrcOk Tryz.prog ITryz xEr:=xFK
abbrev xD9:Env:=xEr
theorem xDk:OrcOk Tryz.prog ITryz xD9:=xDg
abbrev xEq:Env:=xD9
theorem xDR:OrcOk Tryz.prog ITryz xEq:=xDk
abbrev xEm:Env:=xEq
theorem xDl:OrcOk Tryz.prog ITryz xEm:=xDR
abbrev xDV:Env:=xEm
theorem xCS:OrcOk Tryz.prog ITryz xDV:=xDl
abbrev xEc:Env:=xDV
theorem xDJ:OrcOk Tryz.prog ITryz xEc:=xCS
abbrev xD8:Env:=xEc
theorem xDH:OrcOk Tryz.prog ITryz xD8:=xDJ
abbrev xEo:Env:=xD8
theorem xDj:OrcOk Tryz.prog ITryz xEo:=xDH
abbrev xEl:Env:=xEo
theorem xCM:OrcOk Tryz.prog ITryz xEl:=xDj
abbrev xBm:Env:=xEl
theorem xAE:OrcOk Tryz.prog ITryz xBm:=xCM
abbrev xBs:Env:=xBm
theorem xBp:OrcOk Tryz.prog ITryz xBs:=xAE
abbrev xCb:Env:=xBs
theorem xBC:OrcOk Tryz.prog ITryz xCb:=xBp
abbrev xBk:Env:=xCb
theorem xCz:OrcOk Tryz.prog ITryz xBk:=xBC
abbrev xAq:Env:=xBk
theorem xBI:OrcOk Tryz.prog ITryz xAq:=xCz
abbrev EKQ:Env:=xAq
theorem xAu:OrcOk Tryz.prog ITryz EKQ:=xBI
end Go.Sim.M
end
noncomputable section
set_option maxRecDepth 100000
namespace Go.Sim.M
open Go.IntKind (i64 u64 u8)
open Go.RowKit Go.Proofs
def xgL:Env:=EKQ.fn 7 0 (lsOf []) (lpsOf [])
theorem xsr:OrcOk Tryz.prog (ITryz.at 0) xgL:=xAu.fn
theorem xqD:LoOk Tryz.prog (ITryz.at xgL.pin) xgL (Tryz.f89.body.getD .skip):=xaH (by kernel_rfl)
def xfr (b a:Bool):Int:=(br (b) (((-1))) (br (a) ((1)) ((0))))
def xpb (b a:Bool):Bool:=true
def xqG {T:Type} (b a:Bool) (δ:T) (κ:Int→T):T:=br (b) (κ ((-1))) (br (a) (κ (1)) (κ (0)))
theorem xwb (b a:Bool):Pre (xpb b a) (XF Tryz.prog xgL Tryz.f89 (Tryz.f89.body.getD .skip) [AV.bool b,AV.bool a]) (AV.int .i64 (xfr b a)):=by
 have h:XF Tryz.prog xgL Tryz.f89 (Tryz.f89.body.getD .skip) [AV.bool b,AV.bool a]=xqG b a none (fun (p:Int)=>some ((AV.int .i64 p):AV)):=by kernel_rfl
 rw [h];unfold xfr xpb xqG;repeat' (first|exact Pre.none|exact Pre.tt rfl|exact Pre.some rfl|refine Pre.l ?_|refine Pre.r ?_|refine Pre.br (f:=fun (p:Int)=>((AV.int .i64 p):AV)) ?_ ?_|refine Pre.brt (f:=fun (p:Int)=>((AV.int .i64 p):AV)) ?_ ?_)
def xq1:LA→Option (Bool×AV):=ocOf (sCons (sEq pBool) (sCons (sEq pBool) sNil)) fun (b,(a,_))=>(true,(AV.int .i64 (xfr b a)))
theorem xwI:OcOk Tryz.prog ITryz 89 (xq1):=xcd fun c g d=>by
 obtain ⟨e,⟨a,_⟩⟩:=c
 obtain ⟨f,b⟩:=Prod.mk.inj d
 refine xbd (p:=xgL.pin) (xbI mxTryz (inv0Ok Tryz.prog _) rfl xsr Tryz.func89 rfl (by kernel_rfl) xqD ((Pre.get (xwb _ _) rfl).trans ?_))
 exact congrArg some b
def xwp:Env:=EKQ.with 89 xq1
theorem xu9:OrcOk Tryz.prog ITryz xwp:=xAu.with xwI
def xfd:Env:=xwp.fn 48 0 (lsOf []) (lpsOf [])
theorem xqm:OrcOk Tryz.prog (ITryz.at 0) xfd:=xu9.fn
theorem xo5:LoOk Tryz.prog (ITryz.at xfd.pin) xfd (Tryz.f64.body.getD .skip):=xaH (by kernel_rfl)
def xfV (a b:Int) (c:List UInt8) (d e:Int) (f:List UInt8):Int:=(br (a != d) ((xfr (decide (a<d)) (decide (a>d)))) (br (b != e) ((xfr (decide (b<e)) (decide (b>e)))) ((xfr (Op.bytesLess c f) !(Op.bytesLess c f || c==f)))))
def xm1 (a b:Int) (c:List UInt8) (d e:Int) (f:List UInt8):Bool:=true
def xou {T:Type} (a b:Int) (c:List UInt8) (d e:Int) (f:List UInt8) (δ:T) (κ:Int→T):T:=br (a != d) (κ (xfr (decide (a<d)) (decide (a>d)))) (br (b != e) (κ (xfr (decide (b<e)) (decide (b>e)))) (κ (xfr (Op.bytesLess c f) !(Op.bytesLess c f || c==f))))
theorem xtA (a b:Int) (c:List UInt8) (d e:Int) (g:List UInt8):Pre (xm1 a b c d e g) (XF Tryz.prog xfd Tryz.f64 (Tryz.f64.body.getD .skip) [AV.agg [AV.int .i64 a,AV.int .i64 b,AV.str c],AV.agg [AV.int .i64 d,AV.int .i64 e,AV.str g]]) (AV.int .i64 (xfV a b c d e g)):=by
 have h:XF Tryz.prog xfd Tryz.f64 (Tryz.f64.body.getD .skip) [AV.agg [AV.int .i64 a,AV.int .i64 b,AV.str c],AV.agg [AV.int .i64 d,AV.int .i64 e,AV.str g]]=xou a b c d e g none (fun (p:Int)=>some ((AV.int .i64 p):AV)):=by kernel_rfl
 rw [h];unfold xfV xm1 xou;repeat' (first|exact Pre.none|exact Pre.tt rfl|exact Pre.some rfl|refine Pre.l ?_|refine Pre.r ?_|refine Pre.br (f:=fun (p:Int)=>((AV.int .i64 p):AV)) ?_ ?_|refine Pre.brt (f:=fun (p:Int)=>((AV.int .i64 p):AV)) ?_ ?_)
def xos:LA→Option (Bool×AV):=ocOf (sCons (sAgg (sCons (sEq (pInt .i64)) (sCons (sEq (pInt .i64)) (sCons (sEq pStr) sNil)))) (sCons (sAgg (sCons (sEq (pInt .i64)) (sCons (sEq (pInt .i64)) (sCons (sEq pStr) sNil)))) sNil)) fun ((a,(b,(c,_))),((d,(e,(f,_))),_))=>(true,(AV.int .i64 (xfV a b c d e f)))
theorem xtO:OcOk Tryz.prog ITryz 64 (xos):=xcd fun b k c=>by
 obtain ⟨⟨d,⟨e,⟨f,_⟩⟩⟩,⟨⟨g,⟨h,⟨i,_⟩⟩⟩,_⟩⟩:=b
 obtain ⟨j,a⟩:=Prod.mk.inj c
 refine xbd (p:=xfd.pin) (xbI mxTryz (inv0Ok Tryz.prog _) rfl xqm Tryz.func64 rfl (by kernel_rfl) xo5 ((Pre.get (xtA _ _ _ _ _ _) rfl).trans ?_))
 exact congrArg some a
def xtz:Env:=xwp.with 64 xos
theorem xra:OrcOk Tryz.prog ITryz xtz:=xu9.with xtO
def xfm:Env:=xtz.fn 41 0 (lsOf []) (lpsOf [])
theorem xql:OrcOk Tryz.prog (ITryz.at 0) xfm:=xra.fn
theorem xn2:LoOk Tryz.prog (ITryz.at xfm.pin) xfm (loopAt Tryz.f30 0):=xaH (by kernel_rfl)
def xeb (a b:LA) (i:Int):=xfV ((a.getD i.toNat .top).cells.getD 0 .top).toInt ((a.getD i.toNat .top).cells.getD 1 .top).toInt ((a.getD i.toNat .top).cells.getD 2 .top).toStr ((b.getD i.toNat .top).cells.getD 0 .top).toInt ((b.getD i.toNat .top).cells.getD 1 .top).toInt ((b.getD i.toNat .top).cells.getD 2 .top).toStr
def xdD {T:Type} (a b:LA) (i:Int) (δ:T) (κl:(Int)→T) (κr:(Bool×(Int)×(Unit))→T):T:=br (decide (i<a.length)) (br (decide (i<b.length)) (br (decide (0≤i)&&decide (i<a.length)) (br (decide (i.toNat<a.length)&&((a.getD i.toNat .top).cells.length==3&&hasShs [Sh.int .i64,Sh.int .i64,Sh.str] (a.getD i.toNat .top).cells 0)) (br (decide (0≤i)&&decide (i<b.length)) (br (decide (i.toNat<b.length)&&((b.getD i.toNat .top).cells.length==3&&hasShs [Sh.int .i64,Sh.int .i64,Sh.str] (b.getD i.toNat .top).cells 0)) (br (xeb a b i != 0) (κr (true,(xeb a b i),())) (κl (i64.wrap (i+1)))) δ) δ) δ) δ) (κr (false,0,()))) (κr (false,0,()))
def xa5 (a b:LA):(Int)→Option ((Int)⊕(Bool×(Int)×(Unit))):=fun (i)=>xdD a b i none (fun s=>some (.inl s)) (fun p=>some (.inr p))
def xet (a b:LA):(Int)→LA×List Box:=fun (i)=>([AV.list 3 a,AV.list 3 b,AV.int .i64 i],[])
def xdT (a b:LA):(Bool×(Int)×(Unit))→LR:=fun p=>(.node p.1 (.leaf .ret [AV.list 3 a,AV.list 3 b,AV.int .i64 p.2.1] []) (.leaf (.exit 0) [AV.list 3 a,AV.list 3 b,.top] []))
abbrev xqw (a:LA) (H:List Box):=XR Tryz.prog xfm [0,1,5] [0,1,4] [] (loopAt Tryz.f30 0) a H
theorem xqM (a b:LA) (i:Int):Enc (encR (xet a b) (xdT a b)) (xa5 a b i) (xqw (xet a b i).1 (xet a b i).2):=by
 refine eV (xdD a b i none (fun s=>some (encR (xet a b) (xdT a b) (.inl s))) (fun p=>some (encR (xet a b) (xdT a b) (.inr p)))) (by kernel_rfl) ?_;unfold xa5 xdD;repeat' first|exact eN|exact eS rfl|apply eB
def xlU:Lp:=lpOf [0,1,5] [0,1,4] [] (pCons (pList 3 pAny) (pCons (pList 3 pAny) (pCons (pInt .i64) pNil))) pNil fun (a,(b,(i,_))) _=>((Iter (xa5 a b) (i)).isSome,xdT a b ((Iter (xa5 a b) (i)).getD (false,0,())))
theorem xpX:LoopOk Tryz.prog (ITryz.at xfm.pin) xfm.nt (loopAt Tryz.f30 0) xlU:=xcw fun d f g e=>by
 obtain ⟨a,⟨b,⟨i,_⟩⟩⟩:=d
 obtain ⟨c,rfl⟩:=Prod.mk.inj e
 exact xaP mxTryz (inv0Ok Tryz.prog _) rfl xql xn2 (xet a b) (xdT a b) (fun p=>by simp only [xdT,LR.eval];first|(simp;done)|(repeat' split<;>simp)) (xqM a b) (s:=(i)) (xaj c)
def xgt:Env:=xtz.fn 41 0 (lsOf []) (lpsOf [(2,xlU)])
theorem xqp:OrcOk Tryz.prog (ITryz.at 0) xgt:=xra.fn
theorem xpv:LoOk Tryz.prog (ITryz.at xgt.pin) xgt (Tryz.f30.body.getD .skip):=xbT (ls:=[loopAt Tryz.f30 0]) (by kernel_rfl) (lkC xpX lkN)
def xiz {T:Type} (a b:LA) (δ:T) (κ:Int→T):T:=br ((Iter (xa5 a b) 0).isSome) (br (((Iter (xa5 a b) 0).getD (false,0,())).fst) (κ (((Iter (xa5 a b) 0).getD (false,0,())).snd.fst)) (br (decide ((↑a.length:Int)<(↑b.length:Int))) (κ ((-1))) (br (decide ((↑a.length:Int)>(↑b.length:Int))) (κ (1)) (κ (0))))) δ
def xeh (a b:LA):Option (Int):=xiz a b none some
theorem xto (a b:LA):Enc (fun (p:Int)=>((AV.int .i64 p):AV)) (xeh a b) (XF Tryz.prog xgt Tryz.f30 (Tryz.f30.body.getD .skip) [AV.list 3 a,AV.list 3 b]):=by
 refine eV (xiz a b none (fun (p:Int)=>some ((AV.int .i64 p):AV))) (by kernel_rfl) ?_;unfold xeh xiz;repeat' first|exact eN|exact eS rfl|apply eB
def xon:LA→Option (Bool×AV):=ocOf (sCons (sList 3 pAny) (sCons (sList 3 pAny) sNil)) fun (a,(b,_))=>((xeh a b).isSome,(AV.int .i64 ((xeh a b).getD 0)))
theorem xs9:OcOk Tryz.prog ITryz 30 (xon):=xcd fun f h g=>by
 obtain ⟨a,⟨b,_⟩⟩:=f
 obtain ⟨c,e⟩:=Prod.mk.inj g
 refine xbd (p:=xgt.pin) (xbI mxTryz (inv0Ok Tryz.prog _) rfl xqp Tryz.func30 rfl (by kernel_rfl) xpv ((xto _ _ _ (xaj (d:=0) c)).trans ?_))
 exact congrArg some e
def xAA:Env:=xtz.with 30 xon
theorem xAt:OrcOk Tryz.prog ITryz xAA:=xra.with xs9
abbrev xBJ:Env:=xAA
theorem xBP:OrcOk Tryz.prog ITryz xBJ:=xAt
abbrev xAW:Env:=xBJ
theorem xBj:OrcOk Tryz.prog ITryz xAW:=xBP
abbrev xCr:Env:=xAW
theorem xBL:OrcOk Tryz.prog ITryz xCr:=xBj
abbrev xwN:Env:=xCr
theorem xu6:OrcOk Tryz.prog ITryz xwN:=xBL
def xgk:Env:=xwN.fn 18 0 (lsOf []) (lpsOf [])
theorem xrA:OrcOk Tryz.prog (ITryz.at 0) xgk:=xu6.fn
theorem xqk:LoOk Tryz.prog (ITryz.at xgk.pin) xgk (Tryz.f56.body.getD .skip):=xaH (by kernel_rfl)
def xca (a b:Int):Bool:=(br (decide (a≥0)) (br (decide (a<b)) ((decide (b≤1099511627776))) ((false))) ((false)))
def xoq (a b:Int):Bool:=true
def xp9 {T:Type} (a b:Int) (δ:T) (κ:Bool→T):T:=br (decide (a≥0)) (br (decide (a<b)) (κ (decide (b≤1099511627776))) (κ (false))) (κ (false))
theorem xvy (a b:Int):Pre (xoq a b) (XF Tryz.prog xgk Tryz.f56 (Tryz.f56.body.getD .skip) [AV.agg [AV.int .i64 a,AV.int .i64 b]]) (AV.bool (xca a b)):=by
 have h:XF Tryz.prog xgk Tryz.f56 (Tryz.f56.body.getD .skip) [AV.agg [AV.int .i64 a,AV.int .i64 b]]=xp9 a b none (fun (p:Bool)=>some ((AV.bool p):AV)):=by kernel_rfl
 rw [h];unfold xca xoq xp9;repeat' (first|exact Pre.none|exact Pre.tt rfl|exact Pre.some rfl|refine Pre.l ?_|refine Pre.r ?_|refine Pre.br (f:=fun (p:Bool)=>((AV.bool p):AV)) ?_ ?_|refine Pre.brt (f:=fun (p:Bool)=>((AV.bool p):AV)) ?_ ?_)
def xpx:LA→Option (Bool×AV):=ocOf (sCons (sAgg (sCons (sEq (pInt .i64)) (sCons (sEq (pInt .i64)) sNil))) sNil) fun ((a,(b,_)),_)=>(true,(AV.bool (xca a b)))
theorem xvB:OcOk Tryz.prog ITryz 56 (xpx):=xcd fun b g c=>by
 obtain ⟨⟨d,⟨e,_⟩⟩,_⟩:=b
 obtain ⟨f,a⟩:=Prod.mk.inj c
 refine xbd (p:=xgk.pin) (xbI mxTryz (inv0Ok Tryz.prog _) rfl xrA Tryz.func56 rfl (by kernel_rfl) xqk ((Pre.get (xvy _ _) rfl).trans ?_))
 exact congrArg some a
def xCA:Env:=xwN.with 56 xpx
theorem xAv:OrcOk Tryz.prog ITryz xCA:=xu6.with xvB
abbrev xv3:Env:=xCA
theorem xu1:OrcOk Tryz.prog ITryz xv3:=xAv
def xfh:Env:=xv3.fn 27 0 (lsOf []) (lpsOf [])
theorem xqg:OrcOk Tryz.prog (ITryz.at 0) xfh:=xu1.fn
theorem xpt:LoOk Tryz.prog (ITryz.at xfh.pin) xfh (Tryz.f31.body.getD .skip):=xaH (by kernel_rfl)
def xgM (a b c d:Int):Int:=(br (a==c&&(b==d&&true)) ((0)) (br (decide (a<c)) (((-1))) (br (a==c) (br (decide (b<d)) (((-1))) ((1))) ((1)))))
def xm2 (a b c d:Int):Bool:=true
def xoh {T:Type} (a b c d:Int) (δ:T) (κ:Int→T):T:=br (a==c&&(b==d&&true)) (κ (0)) (br (decide (a<c)) (κ ((-1))) (br (a==c) (br (decide (b<d)) (κ ((-1))) (κ (1))) (κ (1))))
theorem xtG (a b c d:Int):Pre (xm2 a b c d) (XF Tryz.prog xfh Tryz.f31 (Tryz.f31.body.getD .skip) [AV.agg [AV.int .i64 a,AV.int .i64 b],AV.agg [AV.int .i64 c,AV.int .i64 d]]) (AV.int .i64 (xgM a b c d)):=by
 have h:XF Tryz.prog xfh Tryz.f31 (Tryz.f31.body.getD .skip) [AV.agg [AV.int .i64 a,AV.int .i64 b],AV.agg [AV.int .i64 c,AV.int .i64 d]]=xoh a b c d none (fun (p:Int)=>some ((AV.int .i64 p):AV)):=by kernel_rfl
 rw [h];unfold xgM xm2 xoh;repeat' (first|exact Pre.none|exact Pre.tt rfl|exact Pre.some rfl|refine Pre.l ?_|refine Pre.r ?_|refine Pre.br (f:=fun (p:Int)=>((AV.int .i64 p):AV)) ?_ ?_|refine Pre.brt (f:=fun (p:Int)=>((AV.int .i64 p):AV)) ?_ ?_)
def xn7:LA→Option (Bool×AV):=ocOf (sCons (sAgg (sCons (sEq (pInt .i64)) (sCons (sEq (pInt .i64)) sNil))) (sCons (sAgg (sCons (sEq (pInt .i64)) (sCons (sEq (pInt .i64)) sNil))) sNil)) fun ((a,(b,_)),((c,(d,_)),_))=>(true,(AV.int .i64 (xgM a b c d)))
theorem xtH:OcOk Tryz.prog ITryz 31 (xn7):=xcd fun b i c=>by
 obtain ⟨⟨d,⟨e,_⟩⟩,⟨⟨f,⟨g,_⟩⟩,_⟩⟩:=b
 obtain ⟨h,a⟩:=Prod.mk.inj c
 refine xbd (p:=xfh.pin) (xbI mxTryz (inv0Ok Tryz.prog _) rfl xqg Tryz.func31 rfl (by kernel_rfl) xpt ((Pre.get (xtG _ _ _ _) rfl).trans ?_))
 exact congrArg some a
def xt7:Env:=xv3.with 31 xn7
theorem xsU:OrcOk Tryz.prog ITryz xt7:=xu1.with xtH
def xeP:Env:=xt7.fn 25 0 (lsOf []) (lpsOf [])
theorem xpV:OrcOk Tryz.prog (ITryz.at 0) xeP:=xsU.fn
theorem xoP:LoOk Tryz.prog (ITryz.at xeP.pin) xeP (Tryz.f33.body.getD .skip):=xaH (by kernel_rfl)
def xfb (a b c d:Int):Bool:=(br (xca a b) (br (xca c d) (br (decide (a<d)) ((decide (c<b))) ((false))) ((false))) ((false)))
def xmL (a b c d:Int):Bool:=true
def xnS {T:Type} (a b c d:Int) (δ:T) (κ:Bool→T):T:=br (xca a b) (br (xca c d) (br (decide (a<d)) (κ (decide (c<b))) (κ (false))) (κ (false))) (κ (false))
theorem xsE (a b c d:Int):Pre (xmL a b c d) (XF Tryz.prog xeP Tryz.f33 (Tryz.f33.body.getD .skip) [AV.agg [AV.int .i64 a,AV.int .i64 b],AV.agg [AV.int .i64 c,AV.int .i64 d]]) (AV.bool (xfb a b c d)):=by
 have h:XF Tryz.prog xeP Tryz.f33 (Tryz.f33.body.getD .skip) [AV.agg [AV.int .i64 a,AV.int .i64 b],AV.agg [AV.int .i64 c,AV.int .i64 d]]=xnS a b c d none (fun (p:Bool)=>some ((AV.bool p):AV)):=by kernel_rfl
 rw [h];unfold xfb xmL xnS;repeat' (first|exact Pre.none|exact Pre.tt rfl|exact Pre.some rfl|refine Pre.l ?_|refine Pre.r ?_|refine Pre.br (f:=fun (p:Bool)=>((AV.bool p):AV)) ?_ ?_|refine Pre.brt (f:=fun (p:Bool)=>((AV.bool p):AV)) ?_ ?_)
def xno:LA→Option (Bool×AV):=ocOf (sCons (sAgg (sCons (sEq (pInt .i64)) (sCons (sEq (pInt .i64)) sNil))) (sCons (sAgg (sCons (sEq (pInt .i64)) (sCons (sEq (pInt .i64)) sNil))) sNil)) fun ((a,(b,_)),((c,(d,_)),_))=>(true,(AV.bool (xfb a b c d)))
theorem xsC:OcOk Tryz.prog ITryz 33 (xno):=xcd fun b i c=>by
 obtain ⟨⟨d,⟨e,_⟩⟩,⟨⟨f,⟨g,_⟩⟩,_⟩⟩:=b
 obtain ⟨h,a⟩:=Prod.mk.inj c
 refine xbd (p:=xeP.pin) (xbI mxTryz (inv0Ok Tryz.prog _) rfl xpV Tryz.func33 rfl (by kernel_rfl) xoP ((Pre.get (xsE _ _ _ _) rfl).trans ?_))
 exact congrArg some a
def xy5:Env:=xt7.with 33 xno
theorem xzA:OrcOk Tryz.prog ITryz xy5:=xsU.with xsC
abbrev xuN:Env:=xy5
theorem xth:OrcOk Tryz.prog ITryz xuN:=xzA
def xeS:Env:=xuN.fn 25 0 (lsOf []) (lpsOf [])
theorem xpF:OrcOk Tryz.prog (ITryz.at 0) xeS:=xth.fn
theorem xox:LoOk Tryz.prog (ITryz.at xeS.pin) xeS (Tryz.f32.body.getD .skip):=xaH (by kernel_rfl)
def xfp (a b c d:Int):Bool:=(br (xca a b) (br (xca c d) (br (b==c) ((true)) ((d==a))) ((false))) ((false)))
def xmB (a b c d:Int):Bool:=true
def xnk {T:Type} (a b c d:Int) (δ:T) (κ:Bool→T):T:=br (xca a b) (br (xca c d) (br (b==c) (κ (true)) (κ (d==a))) (κ (false))) (κ (false))
theorem xss (a b c d:Int):Pre (xmB a b c d) (XF Tryz.prog xeS Tryz.f32 (Tryz.f32.body.getD .skip) [AV.agg [AV.int .i64 a,AV.int .i64 b],AV.agg [AV.int .i64 c,AV.int .i64 d]]) (AV.bool (xfp a b c d)):=by
 have h:XF Tryz.prog xeS Tryz.f32 (Tryz.f32.body.getD .skip) [AV.agg [AV.int .i64 a,AV.int .i64 b],AV.agg [AV.int .i64 c,AV.int .i64 d]]=xnk a b c d none (fun (p:Bool)=>some ((AV.bool p):AV)):=by kernel_rfl
 rw [h];unfold xfp xmB xnk;repeat' (first|exact Pre.none|exact Pre.tt rfl|exact Pre.some rfl|refine Pre.l ?_|refine Pre.r ?_|refine Pre.br (f:=fun (p:Bool)=>((AV.bool p):AV)) ?_ ?_|refine Pre.brt (f:=fun (p:Bool)=>((AV.bool p):AV)) ?_ ?_)
def xnG:LA→Option (Bool×AV):=ocOf (sCons (sAgg (sCons (sEq (pInt .i64)) (sCons (sEq (pInt .i64)) sNil))) (sCons (sAgg (sCons (sEq (pInt .i64)) (sCons (sEq (pInt .i64)) sNil))) sNil)) fun ((a,(b,_)),((c,(d,_)),_))=>(true,(AV.bool (xfp a b c d)))
theorem xsl:OcOk Tryz.prog ITryz 32 (xnG):=xcd fun b i c=>by
 obtain ⟨⟨d,⟨e,_⟩⟩,⟨⟨f,⟨g,_⟩⟩,_⟩⟩:=b
 obtain ⟨h,a⟩:=Prod.mk.inj c
 refine xbd (p:=xeS.pin) (xbI mxTryz (inv0Ok Tryz.prog _) rfl xpF Tryz.func32 rfl (by kernel_rfl) xox ((Pre.get (xss _ _ _ _) rfl).trans ?_))
 exact congrArg some a
def xt9:Env:=xuN.with 32 xnG
theorem xsx:OrcOk Tryz.prog ITryz xt9:=xth.with xsl
def xfI:Env:=xt9.fn 25 0 (lsOf []) (lpsOf [])
theorem xqP:OrcOk Tryz.prog (ITryz.at 0) xfI:=xsx.fn
theorem xpA:LoOk Tryz.prog (ITryz.at xfI.pin) xfI (Tryz.f34.body.getD .skip):=xaH (by kernel_rfl)
def xee (a b c d:Int):Bool:=(br (xca a b) (br (xca c d) (br (decide (a≤c)) ((decide (d≤b))) ((false))) ((false))) ((false)))
def xnE (a b c d:Int):Bool:=true
def xps {T:Type} (a b c d:Int) (δ:T) (κ:Bool→T):T:=br (xca a b) (br (xca c d) (br (decide (a≤c)) (κ (decide (d≤b))) (κ (false))) (κ (false))) (κ (false))
theorem xuc (a b c d:Int):Pre (xnE a b c d) (XF Tryz.prog xfI Tryz.f34 (Tryz.f34.body.getD .skip) [AV.agg [AV.int .i64 a,AV.int .i64 b],AV.agg [AV.int .i64 c,AV.int .i64 d]]) (AV.bool (xee a b c d)):=by
 have h:XF Tryz.prog xfI Tryz.f34 (Tryz.f34.body.getD .skip) [AV.agg [AV.int .i64 a,AV.int .i64 b],AV.agg [AV.int .i64 c,AV.int .i64 d]]=xps a b c d none (fun (p:Bool)=>some ((AV.bool p):AV)):=by kernel_rfl
 rw [h];unfold xee xnE xps;repeat' (first|exact Pre.none|exact Pre.tt rfl|exact Pre.some rfl|refine Pre.l ?_|refine Pre.r ?_|refine Pre.br (f:=fun (p:Bool)=>((AV.bool p):AV)) ?_ ?_|refine Pre.brt (f:=fun (p:Bool)=>((AV.bool p):AV)) ?_ ?_)
def xpl:LA→Option (Bool×AV):=ocOf (sCons (sAgg (sCons (sEq (pInt .i64)) (sCons (sEq (pInt .i64)) sNil))) (sCons (sAgg (sCons (sEq (pInt .i64)) (sCons (sEq (pInt .i64)) sNil))) sNil)) fun ((a,(b,_)),((c,(d,_)),_))=>(true,(AV.bool (xee a b c d)))
theorem xuE:OcOk Tryz.prog ITryz 34 (xpl):=xcd fun b i c=>by
 obtain ⟨⟨d,⟨e,_⟩⟩,⟨⟨f,⟨g,_⟩⟩,_⟩⟩:=b
 obtain ⟨h,a⟩:=Prod.mk.inj c
 refine xbd (p:=xfI.pin) (xbI mxTryz (inv0Ok Tryz.prog _) rfl xqP Tryz.func34 rfl (by kernel_rfl) xpA ((Pre.get (xuc _ _ _ _) rfl).trans ?_))
 exact congrArg some a
def xyR:Env:=xt9.with 34 xpl
theorem xzV:OrcOk Tryz.prog ITryz xyR:=xsx.with xuE
abbrev xza:Env:=xyR
theorem xzK:OrcOk Tryz.prog ITryz xza:=xzV
abbrev xyU:Env:=xza
theorem xz7:OrcOk Tryz.prog ITryz xyU:=xzK
abbrev xy0:Env:=xyU
theorem xzT:OrcOk Tryz.prog ITryz xy0:=xz7
abbrev xzb:Env:=xy0
theorem xzn:OrcOk Tryz.prog ITryz xzb:=xzT
abbrev xyK:Env:=xzb
theorem xzB:OrcOk Tryz.prog ITryz xyK:=xzn
abbrev xyY:Env:=xyK
theorem xAe:OrcOk Tryz.prog ITryz xyY:=xzB
abbrev xzf:Env:=xyY
theorem xAk:OrcOk Tryz.prog ITryz xzf:=xAe
abbrev xy9:Env:=xzf
theorem xzz:OrcOk Tryz.prog ITryz xy9:=xAk
abbrev EKR1:Env:=xy9
theorem xER:OrcOk Tryz.prog ITryz EKR1:=xzz
end Go.Sim.M
end
noncomputable section
set_option maxRecDepth 100000
namespace Go.Sim.M
open Go.IntKind (i64 u64 u8)
open Go.RowKit Go.Proofs
abbrev xDx:Env:=EKR1
theorem xDs:OrcOk Tryz.prog ITryz xDx:=xER
abbrev EKJ:Env:=xDx
theorem xFM:OrcOk Tryz.prog ITryz EKJ:=xDs
end Go.Sim.M
end
noncomputable section
set_option maxRecDepth 100000
namespace Go.Sim.M
open Go.IntKind (i64 u64 u8)
open Go.RowKit Go.Proofs
abbrev xBQ:Env:=EKJ
theorem xAS:OrcOk Tryz.prog ITryz xBQ:=xFM
abbrev xAR:Env:=xBQ
theorem xAK:OrcOk Tryz.prog ITryz xAR:=xAS
def xme {T:Type} (k:Nat) (b n:Int) (a:LA) (δ:T) (κ:Bool×(Nat×LA)×(Nat×LA)→T):T:=br (decide ((↑k:Int)>0)) (br (decide (0≤i64.wrap ((↑k:Int) - 1))&&decide (i64.wrap ((↑k:Int) - 1)<(↑k:Int))) (br (decide (0+(i64.wrap ((↑k:Int) - 1)).toNat<a.length)&&hasSh1 (Sh.int .i64) ((a.getD (0+(i64.wrap ((↑k:Int) - 1)).toNat) .top).cells.getD 1 .top)) (br (((a.getD (0+(i64.wrap ((↑k:Int) - 1)).toNat) .top).cells.getD 1 .top).toInt==n) (κ (true,(k,a),(0,[]))) (br (k==a.length&&(decide ((k+1)*16≤140737488355328)&&decide (k+1≤4611686018427387904))) (κ (false,(0,[]),(k+1,a++[AV.agg [AV.int .i64 b,AV.int .i64 n]]))) δ)) δ) δ) (br (k==a.length&&(decide ((k+1)*16≤140737488355328)&&decide (k+1≤4611686018427387904))) (κ (false,(0,[]),(k+1,a++[AV.agg [AV.int .i64 b,AV.int .i64 n]]))) δ)
def xol (k:Nat) (a n:Int) (b:LA):Option (Bool×(Nat×LA)×(Nat×LA)):=xme k a n b none some
abbrev xCn:Env:=xAR
theorem xAQ:OrcOk Tryz.prog ITryz xCn:=xAK
abbrev xCv:Env:=xCn
theorem xAX:OrcOk Tryz.prog ITryz xCv:=xAQ
abbrev xBV:Env:=xCv
theorem xAC:OrcOk Tryz.prog ITryz xBV:=xAX
abbrev xBt:Env:=xBV
theorem xBK:OrcOk Tryz.prog ITryz xBt:=xAC
abbrev xAp:Env:=xBt
theorem xCc:OrcOk Tryz.prog ITryz xAp:=xBK
abbrev xCy:Env:=xAp
theorem xCG:OrcOk Tryz.prog ITryz xCy:=xCc
abbrev xA5:Env:=xCy
theorem xBZ:OrcOk Tryz.prog ITryz xA5:=xCG
abbrev EKR2:Env:=xA5
theorem xEL:OrcOk Tryz.prog ITryz EKR2:=xBZ
end Go.Sim.M
end
noncomputable section
set_option maxRecDepth 100000
namespace Go.Sim.M
open Go.IntKind (i64 u64 u8)
open Go.RowKit Go.Proofs
abbrev xBq:Env:=EKR2
theorem xBO:OrcOk Tryz.prog ITryz xBq:=xEL
abbrev xCi:Env:=xBq
theorem xA7:OrcOk Tryz.prog ITryz xCi:=xBO
abbrev xAN:Env:=xCi
theorem xBi:OrcOk Tryz.prog ITryz xAN:=xA7
abbrev xAB:Env:=xAN
theorem xCm:OrcOk Tryz.prog ITryz xAB:=xBi
abbrev xAO:Env:=xAB
theorem xBu:OrcOk Tryz.prog ITryz xAO:=xCm
abbrev xCs:Env:=xAO
theorem xBl:OrcOk Tryz.prog ITryz xCs:=xBu
abbrev xBF:Env:=xCs
theorem xAF:OrcOk Tryz.prog ITryz xBF:=xBl
abbrev xCt:Env:=xBF
theorem xCg:OrcOk Tryz.prog ITryz xCt:=xAF
abbrev xCo:Env:=xCt
theorem xBe:OrcOk Tryz.prog ITryz xCo:=xCg
abbrev xyJ:Env:=xCo
theorem xAh:OrcOk Tryz.prog ITryz xyJ:=xBe
abbrev EKR3:Env:=xyJ
theorem xEZ:OrcOk Tryz.prog ITryz EKR3:=xAh
end Go.Sim.M
end
noncomputable section
set_option maxRecDepth 100000
namespace Go.Sim
def stepX (P:Program) (E:Env) (live liveO:List Nat) (conv:List (Nat×Nat×TypeId)) (c:Code) (s:List AV×List Box):Option ((List AV×List Box)⊕{r:Exit×List AV×List Box // r.1≠.normal}) :=
 match XR P E live liveO conv c s.1 s.2 with
 | some (.normal,v,H)=>some (.inl (v,H))
 | some (.exit i,v,H)=>some (.inr ⟨(.exit i,v,H),by simp⟩)
 | some (.ret,v,H)=>some (.inr ⟨(.ret,v,H),by simp⟩)
 | _=>none
def closedLp (P:Program) (E:Env) (live liveO:List Nat) (conv:List (Nat×Nat×TypeId)) (c:Code) (n:Nat):Lp:=⟨live,liveO,conv,fun vals H =>
 match iterN (stepX P E live liveO conv c) n (vals,H) with
 | some r=>some (true,.leaf r.1.1 r.1.2.1 r.1.2.2)
 | none=>none⟩
theorem xys {P:Program} {Inv:IV} {E:Env} (hmx:P.follows .mixedOrders=true) (hIo:InvOk Inv) (hpin:Inv.pin=E.pin) (hor:OrcOk P Inv E) {c:Code} (hlo:LoOk P Inv E c) {live liveO:List Nat} {conv:List (Nat×Nat×TypeId)} {n:Nat} :
  LoopOk P Inv E.nt c (closedLp P E live liveO conv c n):=fun vals H r h=>by
 simp only [closedLp] at h
 split at h
 case h_2=>simp at h
 rename_i r0 hr
 simp only [Option.some.injEq,Prod.mk.injEq,true_and] at h
 subst h
 exact xaP hmx hIo hpin hor hlo (σ:=List AV×List Box) (ρ:={r:Exit×List AV×List Box // r.1≠.normal}) (step:=stepX P E live liveO conv c) (fun s=>s) (fun r=>.leaf r.1.1 r.1.2.1 r.1.2.2) (fun r=>r.2)
  (fun s r hs=>by
   unfold stepX at hs
   split at hs<;>simp only [Option.some.injEq,reduceCtorEq] at hs
   all_goals (subst hs;rename_i hx;exact hx)) (s:=(vals,H)) (r:=r0) (xlx.2 ⟨n,hr⟩)
end Go.Sim
namespace Go.Sim.M
open Go.RowKit Go.Proofs
def mmA (g:FuncId):Bool:=([115,117,
 129,154,167,
 95,128,146,
 69,94,120,
 53,82,100,55,
 92,119,141,
 112,137,157,
 97,68,90,78]:List Nat).contains g
noncomputable def EA0:Env:={ E0 with ls:=lsOf [40,42,83],fuel:=1000 }
theorem xBX:OrcOk Tryz.prog ITryz EA0:=xzq
noncomputable def EAr:Env:={ Env.deep Tryz.prog mmA EA0 10 with pin:=0,nt:=60,ls:=lsOf [] }
theorem xCH:OrcOk Tryz.prog (ITryz.at 0) EAr:=xnb mxTryz mmA (inv0Ok Tryz.prog 0) xBX (fun _=>rfl) 10
noncomputable def xBN:Lp:=closedLp Tryz.prog EAr [3,4,11,12,13] [4] [(4,2,133280301139)] (loopAt Tryz.f67 0) 100
noncomputable def EAr1:Env:={ EAr with lp:=lpsOf [(codeId (loopAt Tryz.f67 0),xBN)] }
theorem xFf:OrcOk Tryz.prog (ITryz.at 0) EAr1:=xCH
noncomputable def xup:List AV→Option (Bool×AV):=fun xs=>match XF Tryz.prog EAr1 Tryz.f67 (Tryz.f67.body.getD .skip) xs with
 | some r=>some (true,r)
 | none=>none
theorem xEB:OcOk Tryz.prog ITryz 67 xup:=fun xs r h=>by
 unfold xup at h
 split at h
 case h_2=>simp at h
 rename_i r0 hr
 simp only [Option.some.injEq,Prod.mk.injEq,true_and] at h
 subst h
 refine xbd (p:=0) (xbI mxTryz (inv0Ok Tryz.prog _) rfl xFf Tryz.func67 rfl (by kernel_rfl) (xbT (ls:=[loopAt Tryz.f67 0]) (by kernel_rfl) (fun l hl lp hs=>?_)) hr)
 simp only [List.mem_cons,List.not_mem_nil,or_false] at hl
 subst hl
 rw [show EAr1.lp (codeId (loopAt Tryz.f67 0))=some xBN by kernel_rfl] at hs
 simp only [Option.some.injEq] at hs
 subst hs
 exact xys (E:=EAr) mxTryz (inv0Ok Tryz.prog _) rfl xCH (xmw fun _=>rfl)
noncomputable def EAs:Env:=EA0.with 67 xup
theorem xB9:OrcOk Tryz.prog ITryz EAs:=xBX.with xEB
noncomputable def EAd:Env:={ Env.deep Tryz.prog mmA EAs 14 with pin:=0 }
mutual
def eqV:AV→AV→Bool
 | .int k a,.int k' b=>decide (k=k')&&decide (a=b)
 | .bool a,.bool b=>a==b
 | .str a,.str b=>decide (a=b)
 | .list n a,.list m b=>Nat.beq n m&&eqVs a b
 | .agg a,.agg b=>eqVs a b
 | _,_=>false
def eqVs:List AV→List AV→Bool
 | [],[]=>true
 | a::l,b::m=>eqV a b&&eqVs l m
 | _,_=>false
end
mutual
theorem xFy:∀ (a b:AV),eqV a b=true→a=b:=fun a b h=>by
 cases a<;>cases b<;>first|(simp [eqV] at h;done)|skip
 all_goals simp only [eqV,Bool.and_eq_true,decide_eq_true_eq,beq_iff_eq] at h
 all_goals first|(rw [h.1,h.2];done)|(rw [h];done)|(rw [Nat.eq_of_beq_eq_true h.1,xru _ _ h.2];done)|(rw [xru _ _ h])
theorem xru:∀ (a b:List AV),eqVs a b=true→a=b
 | [],[],_=>rfl
 | a::l,b::m,h=>by simp only [eqVs,Bool.and_eq_true] at h;rw [xFy a b h.1,xru l m h.2]
 | [],_::_,h=>by simp [eqVs] at h
 | _::_,[],h=>by simp [eqVs] at h
end
def ptO (args:List AV) (r:AV):List AV→Option (Bool×AV):=fun xs=>match eqVs xs args with
 | true=>some (true,r)
 | false=>none
theorem xvQ {P:Program} {Inv:IV} {f:FuncId} {args:List AV} {r:AV} (h:Good P Inv f args r):OcOk P Inv f (ptO args r):=fun xs r0 h0=>by
 unfold ptO at h0
 split at h0
 case h_2=>simp at h0
 rename_i he
 simp only [Option.some.injEq,Prod.mk.injEq,true_and] at h0
 subst h0
 rw [xru _ _ he];exact h
theorem xok {f:FuncId} {fn:Func} {args:List AV} {r:AV} (hf:Tryz.prog.funcs[f]?=some fn) (hb:fn.body.isSome=true) (hname:(fn.name == "runtime.NumGoroutine")=false) (h:XF Tryz.prog EAd fn (fn.body.getD .skip) args=some r):Good Tryz.prog ITryz f args r :=
 xbd (p:=0) (xbI mxTryz (inv0Ok Tryz.prog _) rfl (xot (xnb mxTryz mmA (inv0Ok Tryz.prog 0) xB9 (fun _=>rfl) 14)) hf hb hname (xmw fun _=>rfl) h)
def fcA (a b:Int):AV:=.agg [.list 3 [.agg [.int .i64 1,.int .i64 1,.str []]],.int .i64 a,.int .i64 b]
def lA:AV:=.list 3 [fcA 0 5,fcA 5 8,fcA 2 3]
set_option maxRecDepth 100000 in
theorem xFp:XF Tryz.prog EAd Tryz.f14 (Tryz.f14.body.getD .skip) [lA]=some (.list 3 [fcA 0 8,fcA 2 3]):=by kernel_rfl
theorem xFW:XF Tryz.prog EAd Tryz.f16 (Tryz.f16.body.getD .skip) [lA]=some (.list 3 [fcA 0 8]):=by kernel_rfl
theorem xFz:OcOk Tryz.prog ITryz 14 (ptO [lA] (.list 3 [fcA 0 8,fcA 2 3])):=xvQ (xok Tryz.func14 rfl (by kernel_rfl) xFp)
theorem xFw:OcOk Tryz.prog ITryz 16 (ptO [lA] (.list 3 [fcA 0 8])):=xvQ (xok Tryz.func16 rfl (by kernel_rfl) xFW)
def resA:AV:=.list 3 [fcA 2 5,fcA 5 6,fcA 2 3]
theorem xFT:XF Tryz.prog EAd Tryz.f14 (Tryz.f14.body.getD .skip) [resA]=some (.list 3 [fcA 2 3,fcA 2 6]):=by kernel_rfl
theorem xFH:OcOk Tryz.prog ITryz 14 (ptO [resA] (.list 3 [fcA 2 3,fcA 2 6])):=xvQ (xok Tryz.func14 rfl (by kernel_rfl) xFT)
theorem xFR:XF Tryz.prog EAd Tryz.f21 (Tryz.f21.body.getD .skip) [lA]=some (.list 1 [.int .i64 0,.int .i64 2,.int .i64 3,.int .i64 5,.int .i64 8]):=by kernel_rfl
theorem xFD:OcOk Tryz.prog ITryz 21 (ptO [lA] (.list 1 [.int .i64 0,.int .i64 2,.int .i64 3,.int .i64 5,.int .i64 8])):=xvQ (xok Tryz.func21 rfl (by kernel_rfl) xFR)
noncomputable def EAt:Env:=(((EAs.with 14 (ptO [lA] (.list 3 [fcA 0 8,fcA 2 3]))).with 14 (ptO [resA] (.list 3 [fcA 2 3,fcA 2 6]))).with 16 (ptO [lA] (.list 3 [fcA 0 8]))).with 21 (ptO [lA] (.list 1 [.int .i64 0,.int .i64 2,.int .i64 3,.int .i64 5,.int .i64 8]))
theorem xFQ:OrcOk Tryz.prog ITryz EAt:=(((xB9.with xFz).with xFH).with xFw).with xFD
noncomputable def EAe:Env:={ Env.deep Tryz.prog mmA EAt 14 with pin:=0 }
theorem xE9:XF Tryz.prog EAe Tryz.f12 (Tryz.f12.body.getD .skip) []=some (.bool true):=by kernel_rfl
def xum:List AV→Option (Bool×AV)
 | []=>some (true,.bool true)
 | _=>none
theorem xFe:OcOk Tryz.prog ITryz 12 xum:=fun xs r h=>by
 unfold xum at h;split at h
 · simp only [Option.some.injEq,Prod.mk.injEq,true_and] at h;subst h
   have hd:=xnb mxTryz mmA (inv0Ok Tryz.prog 0) xFQ (fun _=>rfl) 14
   exact xbd (p:=0) (xbI mxTryz (inv0Ok Tryz.prog _) rfl (xot hd) Tryz.func12 rfl (by kernel_rfl) (xmw fun _=>rfl) xE9)
 · simp at h
end Go.Sim.M
end
noncomputable section
namespace Go.Sim.M
open Go.IntKind (i64 u64 u8)
open Go.RowKit Go.Proofs
def EKA:Env:=EKR3.with 12 xum
theorem xv8:OrcOk Tryz.prog ITryz EKA:=xEZ.with xFe
end Go.Sim.M
end
noncomputable section
set_option maxRecDepth 100000
namespace Go.Sim.M
open Go.IntKind (i64 u64 u8)
open Go.RowKit Go.Proofs
def xhD:Env:=EKA.fn 23 0 (lsOf []) (lpsOf [])
theorem xtN:OrcOk Tryz.prog (ITryz.at 0) xhD:=xv8.fn
theorem xqs:LoOk Tryz.prog (ITryz.at xhD.pin) xhD (loopAt Tryz.f40 0):=xaH (by kernel_rfl)
def xhS {T:Type} (l:LA) (i:Int) (δ:T) (κl:(Int)→T) (κr:(Bool×(Bool)×(Unit))→T):T:=br (decide (i<l.length)) (br (decide (0≤i)&&decide (i<l.length)) (br (decide (i.toNat<l.length)&&hasSh1 (Sh.list 3) ((l.getD i.toNat .top).cells.getD 0 .top)) (br (decide ((↑((l.getD i.toNat .top).cells.getD 0 .top).toList.length:Int)>60)) (κr (true,(false),())) (κl (i64.wrap (i+1)))) δ) δ) (κr (false,false,()))
def xbV (l:LA):(Int)→Option ((Int)⊕(Bool×(Bool)×(Unit))):=fun (i)=>xhS l i none (fun s=>some (.inl s)) (fun p=>some (.inr p))
def xgi (l:LA):(Int)→LA×List Box:=fun (i)=>([AV.list 3 l,AV.int .i64 i],[])
def xe8 (l:LA):(Bool×(Bool)×(Unit))→LR:=fun p=>(.node p.1 (.leaf .ret [AV.bool p.2.1] []) (.leaf (.exit 0) [.top] []))
abbrev xuu (a:LA) (H:List Box):=XR Tryz.prog xhD [0,5] [4] [] (loopAt Tryz.f40 0) a H
theorem xuP (l:LA) (i:Int):Enc (encR (xgi l) (xe8 l)) (xbV l i) (xuu (xgi l i).1 (xgi l i).2):=by
 refine eV (xhS l i none (fun s=>some (encR (xgi l) (xe8 l) (.inl s))) (fun p=>some (encR (xgi l) (xe8 l) (.inr p)))) (by kernel_rfl) ?_;unfold xbV xhS;repeat' first|exact eN|exact eS rfl|apply eB
def xn9:Lp:=lpOf [0,5] [4] [] (pCons (pList 3 pAny) (pCons (pInt .i64) pNil)) pNil fun (l,(i,_)) _=>((Iter (xbV l) (i)).isSome,xe8 l ((Iter (xbV l) (i)).getD (false,false,())))
theorem xsK:LoopOk Tryz.prog (ITryz.at xhD.pin) xhD.nt (loopAt Tryz.f40 0) xn9:=xcw fun b d e c=>by
 obtain ⟨l,⟨i,_⟩⟩:=b
 obtain ⟨a,rfl⟩:=Prod.mk.inj c
 exact xaP mxTryz (inv0Ok Tryz.prog _) rfl xtN xqs (xgi l) (xe8 l) (fun p=>by simp only [xe8,LR.eval];first|(simp;done)|(repeat' split<;>simp)) (xuP l) (s:=(i)) (xaj a)
def xiZ:Env:=EKA.fn 23 0 (lsOf []) (lpsOf [(4,xn9)])
theorem xs6:OrcOk Tryz.prog (ITryz.at 0) xiZ:=xv8.fn
theorem xrM:LoOk Tryz.prog (ITryz.at xiZ.pin) xiZ (Tryz.f40.body.getD .skip):=xbT (ls:=[loopAt Tryz.f40 0]) (by kernel_rfl) (lkC xsK lkN)
def xmh {T:Type} (l:LA) (a:Int) (δ:T) (κ:Bool→T):T:=br (decide ((↑l.length:Int)>a)) (κ (false)) (br ((Iter (xbV l) 0).isSome) (br (((Iter (xbV l) 0).getD (false,false,())).fst) (κ (((Iter (xbV l) 0).getD (false,false,())).snd.fst)) (κ (true))) δ)
def xhY (l:LA) (a:Int):Option (Bool):=xmh l a none some
theorem xyw (l:LA) (a:Int):Enc (fun (p:Bool)=>((AV.bool p):AV)) (xhY l a) (XF Tryz.prog xiZ Tryz.f40 (Tryz.f40.body.getD .skip) [AV.list 3 l,AV.int .i64 a]):=by
 refine eV (xmh l a none (fun (p:Bool)=>some ((AV.bool p):AV))) (by kernel_rfl) ?_;unfold xhY xmh;repeat' first|exact eN|exact eS rfl|apply eB
def xrx:LA→Option (Bool×AV):=ocOf (sCons (sList 3 pAny) (sCons (sEq (pInt .i64)) sNil)) fun (l,(a,_))=>((xhY l a).isSome,(AV.bool ((xhY l a).getD false)))
theorem xyh:OcOk Tryz.prog ITryz 40 (xrx):=xcd fun c g e=>by
 obtain ⟨l,⟨f,_⟩⟩:=c
 obtain ⟨a,b⟩:=Prod.mk.inj e
 refine xbd (p:=xiZ.pin) (xbI mxTryz (inv0Ok Tryz.prog _) rfl xs6 Tryz.func40 rfl (by kernel_rfl) xrM ((xyw _ _ _ (xaj (d:=false) a)).trans ?_))
 exact congrArg some b
def xzS:Env:=EKA.with 40 xrx
theorem xwM:OrcOk Tryz.prog ITryz xzS:=xv8.with xyh
def xiM:Env:=xzS.fn 5 0 (lsOf []) (lpsOf [])
theorem xtl:OrcOk Tryz.prog (ITryz.at 0) xiM:=xwM.fn
theorem xrD:LoOk Tryz.prog (ITryz.at xiM.pin) xiM (Tryz.f11.body.getD .skip):=xaH (by kernel_rfl)
def xmg {T:Type} (l:LA) (δ:T) (κ:Bool→T):T:=br ((xhY l 24).isSome) (κ ((xhY l 24).getD false)) δ
def xhX (l:LA):Option (Bool):=xmg l none some
theorem xyk (l:LA):Enc (fun (p:Bool)=>((AV.bool p):AV)) (xhX l) (XF Tryz.prog xiM Tryz.f11 (Tryz.f11.body.getD .skip) [AV.list 3 l]):=by
 refine eV (xmg l none (fun (p:Bool)=>some ((AV.bool p):AV))) (by kernel_rfl) ?_;unfold xhX xmg;repeat' first|exact eN|exact eS rfl|apply eB
def xrX:LA→Option (Bool×AV):=ocOf (sCons (sList 3 pAny) sNil) fun (l,_)=>((xhX l).isSome,(AV.bool ((xhX l).getD false)))
theorem xyA:OcOk Tryz.prog ITryz 11 (xrX):=xcd fun c f e=>by
 obtain ⟨l,_⟩:=c
 obtain ⟨a,b⟩:=Prod.mk.inj e
 refine xbd (p:=xiM.pin) (xbI mxTryz (inv0Ok Tryz.prog _) rfl xtl Tryz.func11 rfl (by kernel_rfl) xrD ((xyk _ _ (xaj (d:=false) a)).trans ?_))
 exact congrArg some b
def xEh:Env:=xzS.with 11 xrX
theorem xDS:OrcOk Tryz.prog ITryz xEh:=xwM.with xyA
abbrev xEg:Env:=xEh
theorem xDe:OrcOk Tryz.prog ITryz xEg:=xDS
abbrev xEe:Env:=xEg
theorem xDv:OrcOk Tryz.prog ITryz xEe:=xDe
abbrev xEd:Env:=xEe
theorem xCK:OrcOk Tryz.prog ITryz xEd:=xDv
abbrev xDY:Env:=xEd
theorem xC0:OrcOk Tryz.prog ITryz xDY:=xCK
abbrev xEs:Env:=xDY
theorem xDb:OrcOk Tryz.prog ITryz xEs:=xC0
abbrev xD3:Env:=xEs
theorem xDm:OrcOk Tryz.prog ITryz xD3:=xDb
abbrev xvU:Env:=xD3
theorem xsv:OrcOk Tryz.prog ITryz xvU:=xDm
def xcQ:Env:=xvU.fn 87 0 (lsOf []) (lpsOf [])
theorem xmE:OrcOk Tryz.prog (ITryz.at 0) xcQ:=xsv.fn
theorem xlz:LoOk Tryz.prog (ITryz.at xcQ.pin) xcQ (loopAt Tryz.f8 1):=xaH (by kernel_rfl)
def xd2 (b:LA) (i k:Int):=(xeh ((b.getD k.toNat .top).cells.getD 0 .top).toList ((b.getD i.toNat .top).cells.getD 0 .top).toList).getD 0==0
def xaY (b:LA) (i:Int):=((b.getD i.toNat .top).cells.getD 1 .top).toInt
def xaV (b:LA) (k:Int):=((b.getD k.toNat .top).cells.getD 2 .top).toInt
def xaU (b:LA) (k:Int):=((b.getD k.toNat .top).cells.getD 1 .top).toInt
def xaX (b:LA) (i:Int):=((b.getD i.toNat .top).cells.getD 2 .top).toInt
def xc5 {T:Type} (b:LA) (i k:Int) (δ:T) (κl:(Int)→T) (κr:(Bool×(Bool)×(Unit))→T):T:=br (decide (k<i)) (br (decide (0≤k)&&decide (k<b.length)) (br (decide (k.toNat<b.length)&&hasSh1 (Sh.list 3) ((b.getD k.toNat .top).cells.getD 0 .top)) (br (decide (0≤i)&&decide (i<b.length)) (br (decide (i.toNat<b.length)&&hasSh1 (Sh.list 3) ((b.getD i.toNat .top).cells.getD 0 .top)) (br ((xeh ((b.getD k.toNat .top).cells.getD 0 .top).toList ((b.getD i.toNat .top).cells.getD 0 .top).toList).isSome) (br (decide (0≤k)&&decide (k<b.length)) (br (decide (k.toNat<b.length)&&((b.getD k.toNat .top).cells.length==3&&hasShs [Sh.int .i64,Sh.int .i64] (b.getD k.toNat .top).cells 1)) (br (decide (0≤i)&&decide (i<b.length)) (br (decide (i.toNat<b.length)&&((b.getD i.toNat .top).cells.length==3&&hasShs [Sh.int .i64,Sh.int .i64] (b.getD i.toNat .top).cells 1)) (br (decide ((xeh ((b.getD k.toNat .top).cells.getD 0 .top).toList ((b.getD i.toNat .top).cells.getD 0 .top).toList).getD 0>0)) (κr (true,(false),())) (br (xd2 b i k) (br (decide (xgM (xaU b k) (xaV b k) (xaY b i) (xaX b i)>0)) (κr (true,(false),())) (br (xd2 b i k) (br (xfp (xaU b k) (xaV b k) (xaY b i) (xaX b i)) (κr (true,(false),())) (br (xfb (xaU b k) (xaV b k) (xaY b i) (xaX b i)) (br (!xee (xaU b k) (xaV b k) (xaY b i) (xaX b i)) (br (!xee (xaY b i) (xaX b i) (xaU b k) (xaV b k)) (κr (true,(false),())) (κl (i64.wrap (k+1)))) (κl (i64.wrap (k+1)))) (κl (i64.wrap (k+1))))) (κl (i64.wrap (k+1))))) (br (xd2 b i k) (br (xfp (xaU b k) (xaV b k) (xaY b i) (xaX b i)) (κr (true,(false),())) (br (xfb (xaU b k) (xaV b k) (xaY b i) (xaX b i)) (br (!xee (xaU b k) (xaV b k) (xaY b i) (xaX b i)) (br (!xee (xaY b i) (xaX b i) (xaU b k) (xaV b k)) (κr (true,(false),())) (κl (i64.wrap (k+1)))) (κl (i64.wrap (k+1)))) (κl (i64.wrap (k+1))))) (κl (i64.wrap (k+1)))))) δ) δ) δ) δ) δ) δ) δ) δ) δ) (κr (false,false,()))
def xaT (b:LA) (i:Int):(Int)→Option ((Int)⊕(Bool×(Bool)×(Unit))):=fun (k)=>xc5 b i k none (fun s=>some (.inl s)) (fun p=>some (.inr p))
def xcB (b:LA) (i:Int):(Int)→LA×List Box:=fun (k)=>([AV.list 3 b,AV.int .i64 i,AV.int .i64 k],[])
def xcg (b:LA) (i:Int):(Bool×(Bool)×(Unit))→LR:=fun p=>(.node p.1 (.leaf .ret [AV.bool p.2.1,AV.list 3 b,AV.int .i64 i] []) (.leaf (.exit 2) [.top,AV.list 3 b,AV.int .i64 i] []))
abbrev xmO (a:LA) (H:List Box):=XR Tryz.prog xcQ [3,4,5] [2,3,4] [] (loopAt Tryz.f8 1) a H
theorem xmP (b:LA) (i k:Int):Enc (encR (xcB b i) (xcg b i)) (xaT b i k) (xmO (xcB b i k).1 (xcB b i k).2):=by
 refine eV (xc5 b i k none (fun s=>some (encR (xcB b i) (xcg b i) (.inl s))) (fun p=>some (encR (xcB b i) (xcg b i) (.inr p)))) (by kernel_rfl) ?_;unfold xaT xc5;repeat' first|exact eN|exact eS rfl|apply eB
def xfu:Lp:=lpOf [3,4,5] [2,3,4] [] (pCons (pList 3 pAny) (pCons (pInt .i64) (pCons (pInt .i64) pNil))) pNil fun (b,(i,(k,_))) _=>((Iter (xaT b i) (k)).isSome,xcg b i ((Iter (xaT b i) (k)).getD (false,false,())))
theorem xhE:LoopOk Tryz.prog (ITryz.at xcQ.pin) xcQ.nt (loopAt Tryz.f8 1) xfu:=xcw fun c e f d=>by
 obtain ⟨b,⟨i,⟨k,_⟩⟩⟩:=c
 obtain ⟨a,rfl⟩:=Prod.mk.inj d
 exact xaP mxTryz (inv0Ok Tryz.prog _) rfl xmE xlz (xcB b i) (xcg b i) (fun p=>by simp only [xcg,LR.eval];first|(simp;done)|(repeat' split<;>simp)) (xmP b i) (s:=(k)) (xaj a)
def xcS:Env:=xvU.fn 87 0 (lsOf []) (lpsOf [(10,xfu)])
theorem xmz:OrcOk Tryz.prog (ITryz.at 0) xcS:=xsv.fn
theorem xlw:LoOk Tryz.prog (ITryz.at xcS.pin) xcS (loopAt Tryz.f8 0):=xbT (ls:=[loopAt Tryz.f8 1]) (by kernel_rfl) (lkC xhE lkN)
def xc7 {T:Type} (b:LA) (i:Int) (δ:T) (κl:(Int)→T) (κr:(Bool×(Bool)×(Unit))→T):T:=br (decide (i<b.length)) (br ((Iter (xaT b i) 0).isSome) (br (((Iter (xaT b i) 0).getD (false,false,())).fst) (κr (true,(((Iter (xaT b i) 0).getD (false,false,())).snd.fst),())) (κl (i64.wrap (i+1)))) δ) (κr (false,false,()))
def xaR (b:LA):(Int)→Option ((Int)⊕(Bool×(Bool)×(Unit))):=fun (i)=>xc7 b i none (fun s=>some (.inl s)) (fun p=>some (.inr p))
def xcC (b:LA):(Int)→LA×List Box:=fun (i)=>([AV.list 3 b,AV.int .i64 i],[])
def xcc (b:LA):(Bool×(Bool)×(Unit))→LR:=fun p=>(.node p.1 (.leaf .ret [AV.bool p.2.1] []) (.leaf (.exit 0) [.top] []))
abbrev xmY (a:LA) (H:List Box):=XR Tryz.prog xcS [3,4] [2] [] (loopAt Tryz.f8 0) a H
theorem xmT (b:LA) (i:Int):Enc (encR (xcC b) (xcc b)) (xaR b i) (xmY (xcC b i).1 (xcC b i).2):=by
 refine eV (xc7 b i none (fun s=>some (encR (xcC b) (xcc b) (.inl s))) (fun p=>some (encR (xcC b) (xcc b) (.inr p)))) (by kernel_rfl) ?_;unfold xaR xc7;repeat' first|exact eN|exact eS rfl|apply eB
def xh0:Lp:=lpOf [3,4] [2] [] (pCons (pList 3 pAny) (pCons (pInt .i64) pNil)) pNil fun (b,(i,_)) _=>((Iter (xaR b) (i)).isSome,xcc b ((Iter (xaR b) (i)).getD (false,false,())))
theorem xl4:LoopOk Tryz.prog (ITryz.at xcS.pin) xcS.nt (loopAt Tryz.f8 0) xh0:=xcw fun c e f d=>by
 obtain ⟨b,⟨i,_⟩⟩:=c
 obtain ⟨a,rfl⟩:=Prod.mk.inj d
 exact xaP mxTryz (inv0Ok Tryz.prog _) rfl xmz xlw (xcC b) (xcc b) (fun p=>by simp only [xcc,LR.eval];first|(simp;done)|(repeat' split<;>simp)) (xmT b) (s:=(i)) (xaj a)
def xdE:Env:=xvU.fn 87 0 (lsOf []) (lpsOf [(10,xfu),(7,xh0)])
theorem xmy:OrcOk Tryz.prog (ITryz.at 0) xdE:=xsv.fn
theorem xl7:LoOk Tryz.prog (ITryz.at xdE.pin) xdE (Tryz.f8.body.getD .skip):=xbT (ls:=[loopAt Tryz.f8 0,loopAt Tryz.f8 1]) (by kernel_rfl) (lkC xl4 (lkC xhE lkN))
def xe2 {T:Type} (l:LA) (δ:T) (κ:Bool→T):T:=br ((xhX l).isSome) (br (!(xhX l).getD false) (κ (true)) (br ((xdH l).isSome) (br (decide ((↑((xdH l).getD []).length:Int)>576)) (κ (false)) (br ((Iter (xaR ((xdH l).getD [])) 0).isSome) (br (((Iter (xaR ((xdH l).getD [])) 0).getD (false,false,())).fst) (κ (((Iter (xaR ((xdH l).getD [])) 0).getD (false,false,())).snd.fst)) (κ (true))) δ)) δ)) δ
def xcV (l:LA):Option (Bool):=xe2 l none some
theorem xn1 (l:LA):Enc (fun (p:Bool)=>((AV.bool p):AV)) (xcV l) (XF Tryz.prog xdE Tryz.f8 (Tryz.f8.body.getD .skip) [AV.list 3 l]):=by
 refine eV (xe2 l none (fun (p:Bool)=>some ((AV.bool p):AV))) (by kernel_rfl) ?_;unfold xcV xe2;repeat' first|exact eN|exact eS rfl|apply eB
def xn0:LA→Option (Bool×AV):=ocOf (sCons (sList 3 pAny) sNil) fun (l,_)=>((xcV l).isSome,(AV.bool ((xcV l).getD false)))
theorem xnx:OcOk Tryz.prog ITryz 8 (xn0):=xcd fun c f e=>by
 obtain ⟨l,_⟩:=c
 obtain ⟨a,b⟩:=Prod.mk.inj e
 refine xbd (p:=xdE.pin) (xbI mxTryz (inv0Ok Tryz.prog _) rfl xmy Tryz.func8 rfl (by kernel_rfl) xl7 ((xn1 _ _ (xaj (d:=false) a)).trans ?_))
 exact congrArg some b
end Go.Sim.M
end
