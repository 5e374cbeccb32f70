/- Part 14 of the proof: SrtE, E1, KP1, KP2, Lset, KP3, KP4, KP5, KV, KQ, KR1, KJ, KR2, KR3, Awz, KA, KL. -/
import Derived.Test.YtefloaolddjnhaaGreatDoorQD13
import Derived.StillTailTactics
set_option linter.unusedVariables false
set_option linter.unusedSimpArgs false
set_option linter.unnecessarySimpa false
set_option linter.unusedSectionVars false
noncomputable section
set_option maxRecDepth 100000
namespace Go.Sim.M
def cmpI (x y:Int):Int:=if x<y then -1 else if y<x then 1 else 0
def orI (x y:Int):Int:=if x=0 then y else x
end Go.Sim.M
namespace Go.Proofs
open Go.RowKit Go.Sim Go.Sim.M Go.Sort Go.Lib
theorem Tryz.cmp_walk (x y:Int) (w:World):Calls Tryz.prog 54 #[.int .i64 x,.int .i64 y] w fun e w'=>e=.returned (.int .i64 (cmpI x y))∧w'=w:=by
 unfold cmpI
 go_enter Tryz.func54,Tryz.ntmps54
 go_wp2
 all_goals (go_ret;exact ⟨rfl,rfl⟩)
theorem Tryz.or_walk (x y:Int) (b off c:Nat) (w:World) (h0:w.cell? ⟨b,off,none⟩=some (.int .i64 x)) (h1:w.cell? ⟨b,off+1,none⟩=some (.int .i64 y)):Calls Tryz.prog 71 #[.slice (some ⟨b,off,none⟩) 2 c] w fun e w'=>e=.returned (.int .i64 (orI x y))∧w'=w:=by
 unfold orI
 by_cases hx:x=0
 · subst hx
   rw [if_pos rfl]
   by_cases hy:y=0
   · subst hy
     go_enter Tryz.func71,Tryz.ntmps71
     go_wp2
     refine wp_loop_rounds 3 ?_
     rw [rounds_succ]
     go_wp2
     rw [rounds_succ]
     go_wp2
     rw [rounds_succ]
     go_wp2
     go_ret
     exact ⟨rfl,rfl⟩
   · have hy':(y != 0)=true:=by simpa using hy
     go_enter Tryz.func71,Tryz.ntmps71
     go_wp2
     refine wp_loop_rounds 3 ?_
     rw [rounds_succ]
     go_wp2
     rw [rounds_succ]
     go_wp2
     go_ret
     exact ⟨rfl,rfl⟩
 · have hx':(x != 0)=true:=by simpa using hx
   rw [if_neg hx]
   go_enter Tryz.func71,Tryz.ntmps71
   go_wp2
   refine wp_loop_rounds 3 ?_
   rw [rounds_succ]
   go_wp2
   go_ret
   exact ⟨rfl,rfl⟩
theorem fill2I (u1 u2:Int):Instr.fill (fun i=>some (i*1,1)) ((Array.range (2*1)).map (fun x=>(Value.int .i64 0).cells[x % (Value.int .i64 0).cells.size]!)) [(0,.int .i64 u1),(1,.int .i64 u2)]=some #[.int .i64 u1,.int .i64 u2]:=by
 simp [Instr.fill,Array.range,Value.cells]
 apply Array.ext
 · simp
 · intro i h1 h2
   rcases i with _|_|i
   · simp
   · simp
   · simp at h2;omega
set_option maxHeartbeats 2000000 in
theorem Tryz.levels2_walk (a b c d:Int) (w:World):Calls Tryz.prog 70 #[.agg #[.int .i64 a,.int .i64 b],.agg #[.int .i64 c,.int .i64 d]] w fun e w'=>e=.returned (.int .i64 (orI (cmpI a c) (cmpI b d)))∧∃ q os',w'=Sort.grow (w.drewN q) os':=by
 go_enter Tryz.func70,Tryz.ntmps70
 go_wp2_with (go_at_call 54;skip)
 have g0:(w.alloc (.cells #[.int .i64 a,.int .i64 b] 31)).heap[w.heap.size]?=some (.cells #[.int .i64 a,.int .i64 b] 31 (0,0)):=heap_alloc_new w _
 have g1:((w.alloc (.cells #[.int .i64 a,.int .i64 b] 31)).alloc (.cells #[.int .i64 c,.int .i64 d] 31)).heap[w.heap.size+1]?=some (.cells #[.int .i64 c,.int .i64 d] 31 (0,0)):=by
  have:=heap_alloc_new (w.alloc (.cells #[.int .i64 a,.int .i64 b] 31)) (.cells #[.int .i64 c,.int .i64 d] 31)
  have e:(w.alloc (.cells #[.int .i64 a,.int .i64 b] 31)).heap.size=w.heap.size+1:=by simp
  rwa [e] at this
 have f0:((w.alloc (.cells #[.int .i64 a,.int .i64 b] 31)).alloc (.cells #[.int .i64 c,.int .i64 d] 31)).cell? ⟨w.heap.size,0,none⟩=some (.int .i64 a):=by
  rw [World.cell?_alloc_past _ _ _ (by simp)];simp only [World.cell?,g0];rfl
 have f1:((w.alloc (.cells #[.int .i64 a,.int .i64 b] 31)).alloc (.cells #[.int .i64 c,.int .i64 d] 31)).cell? ⟨w.heap.size,1,none⟩=some (.int .i64 b):=by
  rw [World.cell?_alloc_past _ _ _ (by simp)];simp only [World.cell?,g0];rfl
 have f2:((w.alloc (.cells #[.int .i64 a,.int .i64 b] 31)).alloc (.cells #[.int .i64 c,.int .i64 d] 31)).cell? ⟨w.heap.size+1,0,none⟩=some (.int .i64 c):=by
  simp only [World.cell?,g1];rfl
 have f3:((w.alloc (.cells #[.int .i64 a,.int .i64 b] 31)).alloc (.cells #[.int .i64 c,.int .i64 d] 31)).cell? ⟨w.heap.size+1,1,none⟩=some (.int .i64 d):=by
  simp only [World.cell?,g1];rfl
 have f4:∃ q os',((w.alloc (.cells #[.int .i64 a,.int .i64 b] 31)).alloc (.cells #[.int .i64 c,.int .i64 d] 31))=Sort.grow (w.drewN q) os':=⟨0,_,by rw [alloc_eq_grow,alloc_eq_grow,grow_grow];rfl⟩
 generalize ((w.alloc (.cells #[.int .i64 a,.int .i64 b] 31)).alloc (.cells #[.int .i64 c,.int .i64 d] 31))=W2 at f0 f1 f2 f3 f4 ⊢
 refine wp_region_still_tail 10 (by kernel_rfl) (by kernel_rfl) ?_
 simp only [List.take_succ_cons,List.take_zero,List.drop_succ_cons,List.drop_zero]
 change wpStill _ _ (World.drew W2) _ _ _
 have f0':W2.drew.cell? ⟨w.heap.size,0,none⟩=some (.int .i64 a):=f0
 have f1':W2.drew.cell? ⟨w.heap.size,1,none⟩=some (.int .i64 b):=f1
 have f2':W2.drew.cell? ⟨w.heap.size+1,0,none⟩=some (.int .i64 c):=f2
 have f3':W2.drew.cell? ⟨w.heap.size+1,1,none⟩=some (.int .i64 d):=f3
 have f4':∃ q os',W2.drew=Sort.grow (w.drewN q) os':=by obtain ⟨q,os',e⟩:=f4;exact ⟨q+1,os',by rw [e];rfl⟩
 iterate 4 still_step
 still_call (Tryz.cmp_walk _ _ _)
 iterate 4 still_step
 still_call (Tryz.cmp_walk _ _ _)
 refine wpStill_nil ?_
 change wpList _ _ _ _ _ (World.drew W2)
 generalize World.drew W2=W at f0' f1' f2' f3' f4' ⊢
 generalize hu1:cmpI a c=u1
 generalize hu2:cmpI b d=u2
 obtain ⟨ie,q1,q2,q3⟩:∃ ie,Tryz.prog.info? 3=some ie∧ie.zero=some (.int .i64 0)∧ie.size=1:=⟨(Tryz.prog.info? 3).get (by kernel_rfl),(Option.some_get _).symm,by kernel_rfl,by kernel_rfl⟩
 refine wpList_buildSlice rfl 28 3 2 _ rfl #[.int .i64 u1,.int .i64 u2] ie (.int .i64 0) (by kernel_rfl) q1 q2 (by rw [q3];decide) (by rw [q3];decide) (by rw [q3];refine Eq.trans (congrArg _ ?_) (fill2I u1 u2);simp [Act.eval]) ?_
 simp only [Act.put]
 go_wp2_with fail
 have g2:(W.alloc (.cells #[.int .i64 u1,.int .i64 u2] 3)).heap[W.heap.size]?=some (.cells #[.int .i64 u1,.int .i64 u2] 3 (0,0)):=heap_alloc_new W _
 refine (Tryz.or_walk u1 u2 W.heap.size 0 2 (W.alloc (.cells #[.int .i64 u1,.int .i64 u2] 3)) (by simp only [World.cell?,g2];rfl) (by simp only [World.cell?,g2];rfl)).mono ?_
 rintro e w' ⟨rfl,rfl⟩
 go_wp2
 go_ret
 obtain ⟨q,os',hq⟩:=f4'
 exact ⟨by rw [hu1,hu2];rfl,q,_,by rw [hq,alloc_eq_grow,grow_grow]⟩
end Go.Proofs
namespace Go.Sim.M
abbrev TyE:Type:=Fin 1099511627777×Int×Int
def intsE (x:TyE):List Int:=[(x.1.val:Int),x.2.1,x.2.2]
def cmpE (x y:TyE):Int:=(x.1.val:Int) - (y.1.val:Int)
end Go.Sim.M
namespace Go.Proofs
open Go.RowKit Go.Sim Go.Sim.M Go.Sort
set_option maxHeartbeats 1000000 in
theorem Tryz.walkE (a b c a' b' c' r:Int) (hr:IntKind.i64.wrap (a - a')=r) (W:World):Calls Tryz.prog 130 #[.agg #[.int .i64 a,.int .i64 b,.int .i64 c],.agg #[.int .i64 a',.int .i64 b',.int .i64 c']] W fun e w'=>e=.returned (.int .i64 r)∧∃ q os',w'=Sort.grow (W.drewN q) os':=by
 go_enter Tryz.func130,Tryz.ntmps130
 go_wp2
 go_ret
 subst hr
 exact ⟨rfl,0,_,by rw [alloc_eq_grow,alloc_eq_grow,grow_grow];rfl⟩
end Go.Proofs
namespace Go.Sim.M
open Go.RowKit Go.Proofs Go.Sort
def isE:AV→Bool
 | .agg [.int .i64 a,.int .i64 _,.int .i64 _]=>decide (0≤a)&&decide (a≤1099511627776)
 | _=>false
def decE:AV→TyE
 | .agg [.int _ a,.int _ b,.int _ c]=>(Fin.ofNat 1099511627777 a.toNat,b,c)
 | _=>default
noncomputable def srtE (xs:List AV):List AV:=(pdqL cmpE (xs.map decE)).map (encI intsE)
theorem xHa {x:AV} (h:isE x=true):encI intsE (decE x)=x:=by
 unfold isE at h
 split at h
 · rename_i a b c
   simp only [Bool.and_eq_true,decide_eq_true_eq] at h
   have:a.toNat % 1099511627777=a.toNat:=Nat.mod_eq_of_lt (by omega)
   simp only [decE,encI,intsE,List.map_cons,List.map_nil,Fin.ofNat,this,Int.toNat_of_nonneg h.1]
 · simp at h
theorem xFx {xs:List AV} (h:xs.all isE=true):(xs.map decE).map (encI intsE)=xs:=by
 rw [List.map_map]
 conv=>rhs;rw [←List.map_id xs]
 refine List.map_congr_left fun x hx=>?_
 exact xHa (List.all_eq_true.1 h x hx)
theorem ltE (x y:TyE):ltOf cmpE x y=decide (x.1.val<y.1.val):=by
 unfold ltOf cmpE
 by_cases h:x.1.val<y.1.val
 · rw [decide_eq_true h,decide_eq_true (by omega)]
 · rw [decide_eq_false h,decide_eq_false (by omega)]
theorem swoE:SWO (ltOf cmpE) where
 irrefl x:=by rw [ltE];simp
 trans x y z h1 h2:=by rw [ltE] at *;simp at *;omega
 ntrans x y z h1 h2:=by rw [ltE] at *;simp at *;omega
noncomputable def xyI:List AV→List Box→Option (Bool×AV×List Box)
 | [.osl (.b 0) ver 0 n,.func g []],[⟨ver',3,ty,xs,false,true⟩]=>match Nat.beq g 130&&Nat.beq ty 117 with
  | true=>some (Nat.beq ver ver'&&(Nat.beq n xs.length&&(decide (n<4611686018427387904)&&xs.all isE)),.tuple [],[⟨ver',3,117,srtE xs,false,true⟩])
  | false=>none
 | _,_=>none
theorem xIj:OmOk Tryz.prog ITryz 129 xyI:=fun ass H r H' h=>by
 unfold xyI at h
 split at h
 · rename_i ver n g ver' ty xs
   split at h
   case h_2=>simp at h
   rename_i hg
   simp only [Bool.and_eq_true] at hg
   obtain rfl:=Nat.eq_of_beq_eq_true hg.1
   obtain rfl:=Nat.eq_of_beq_eq_true hg.2
   simp only [Option.some.injEq,Prod.mk.injEq,Bool.and_eq_true,decide_eq_true_eq] at h
   obtain ⟨⟨h1,h2,h3,h4⟩,rfl,rfl⟩:=h
   obtain rfl:=Nat.eq_of_beq_eq_true h1
   obtain rfl:=Nat.eq_of_beq_eq_true h2
   have hti:∃ ti,tinfo Tryz.prog 117=some ti∧ti.sz=3∧ti.agg=true:=by
    have h:(match tinfo Tryz.prog 117 with|some ti=>(ti.sz==3)&&ti.agg|none=>false)=true:=by kernel_rfl
    split at h
    · rename_i ti hti
      simp only [Bool.and_eq_true,beq_iff_eq] at h
      exact ⟨ti,hti,h.1,h.2⟩
    · simp at h
   obtain ⟨ti,hti,hz,ha⟩:=hti
   have hgd:=xoB (P:=Tryz.prog) (Inv:=ITryz) Tryz.srl129 3 (by decide) (fun w=>by rw [←ha];exact xkx hti w) (fun w=>by rw [←hz];exact xej hti w)
    intsE (fun _=>rfl) cmpE swoE 130 (xdT Tryz.func129 rfl (by kernel_rfl)) (xj4 (xdT Tryz.func130 rfl (by kernel_rfl)))
    (fun x y W=>Tryz.walkE _ _ _ _ _ _ (cmpE x y) (by
     have:=x.1.isLt
     have:=y.1.isLt
     unfold cmpE
     exact xcX (by omega) (by omega)) W)
    ver 117 rfl (xs.map decE) (by simpa using h3)
   rw [List.length_map,xFx h4] at hgd
   exact hgd
 · simp at h
end Go.Sim.M
namespace Go.Sim.M
abbrev TyS:Type:=Fin 1099511627777×Int
def intsS (x:TyS):List Int:=[(x.1.val:Int),x.2]
def cmpS (x y:TyS):Int:=(x.1.val:Int) - (y.1.val:Int)
end Go.Sim.M
namespace Go.Proofs
open Go.RowKit Go.Sim Go.Sim.M Go.Sort
set_option maxHeartbeats 1000000 in
theorem Tryz.walkS (a b a' b' r:Int) (hr:IntKind.i64.wrap (a - a')=r) (W:World):Calls Tryz.prog 96 #[.agg #[.int .i64 a,.int .i64 b],.agg #[.int .i64 a',.int .i64 b']] W fun e w'=>e=.returned (.int .i64 r)∧∃ q os',w'=Sort.grow (W.drewN q) os':=by
 go_enter Tryz.func96,Tryz.ntmps96
 go_wp2
 go_ret
 subst hr
 exact ⟨rfl,0,_,by rw [alloc_eq_grow,alloc_eq_grow,grow_grow];rfl⟩
end Go.Proofs
namespace Go.Sim.M
open Go.RowKit Go.Proofs Go.Sort
def isS:AV→Bool
 | .agg [.int .i64 a,.int .i64 _]=>decide (0≤a)&&decide (a≤1099511627776)
 | _=>false
def decS:AV→TyS
 | .agg [.int _ a,.int _ b]=>(Fin.ofNat 1099511627777 a.toNat,b)
 | _=>default
noncomputable def srtS (xs:List AV):List AV:=(pdqL cmpS (xs.map decS)).map (encI intsS)
theorem xGM {x:AV} (h:isS x=true):encI intsS (decS x)=x:=by
 unfold isS at h
 split at h
 · rename_i a b
   simp only [Bool.and_eq_true,decide_eq_true_eq] at h
   have:a.toNat % 1099511627777=a.toNat:=Nat.mod_eq_of_lt (by omega)
   simp only [decS,encI,intsS,List.map_cons,List.map_nil,Fin.ofNat,this,Int.toNat_of_nonneg h.1]
 · simp at h
theorem xF0 {xs:List AV} (h:xs.all isS=true):(xs.map decS).map (encI intsS)=xs:=by
 rw [List.map_map]
 conv=>rhs;rw [←List.map_id xs]
 refine List.map_congr_left fun x hx=>?_
 exact xGM (List.all_eq_true.1 h x hx)
theorem ltS (x y:TyS):ltOf cmpS x y=decide (x.1.val<y.1.val):=by
 unfold ltOf cmpS
 by_cases h:x.1.val<y.1.val
 · rw [decide_eq_true h,decide_eq_true (by omega)]
 · rw [decide_eq_false h,decide_eq_false (by omega)]
theorem swoS:SWO (ltOf cmpS) where
 irrefl x:=by rw [ltS];simp
 trans x y z h1 h2:=by rw [ltS] at *;simp at *;omega
 ntrans x y z h1 h2:=by rw [ltS] at *;simp at *;omega
noncomputable def xyy:List AV→List Box→Option (Bool×AV×List Box)
 | [.osl (.b 0) ver 0 n,.func g []],[⟨ver',2,ty,xs,false,true⟩]=>match Nat.beq g 96&&Nat.beq ty 75 with
  | true=>some (Nat.beq ver ver'&&(Nat.beq n xs.length&&(decide (n<4611686018427387904)&&xs.all isS)),.tuple [],[⟨ver',2,75,srtS xs,false,true⟩])
  | false=>none
 | _,_=>none
theorem xIi:OmOk Tryz.prog ITryz 95 xyy:=fun ass H r H' h=>by
 unfold xyy at h
 split at h
 · rename_i ver n g ver' ty xs
   split at h
   case h_2=>simp at h
   rename_i hg
   simp only [Bool.and_eq_true] at hg
   obtain rfl:=Nat.eq_of_beq_eq_true hg.1
   obtain rfl:=Nat.eq_of_beq_eq_true hg.2
   simp only [Option.some.injEq,Prod.mk.injEq,Bool.and_eq_true,decide_eq_true_eq] at h
   obtain ⟨⟨h1,h2,h3,h4⟩,rfl,rfl⟩:=h
   obtain rfl:=Nat.eq_of_beq_eq_true h1
   obtain rfl:=Nat.eq_of_beq_eq_true h2
   have hti:∃ ti,tinfo Tryz.prog 75=some ti∧ti.sz=2∧ti.agg=true:=by
    have h:(match tinfo Tryz.prog 75 with|some ti=>(ti.sz==2)&&ti.agg|none=>false)=true:=by kernel_rfl
    split at h
    · rename_i ti hti
      simp only [Bool.and_eq_true,beq_iff_eq] at h
      exact ⟨ti,hti,h.1,h.2⟩
    · simp at h
   obtain ⟨ti,hti,hz,ha⟩:=hti
   have hgd:=xoB (P:=Tryz.prog) (Inv:=ITryz) Tryz.srl95 2 (by decide) (fun w=>by rw [←ha];exact xkx hti w) (fun w=>by rw [←hz];exact xej hti w)
    intsS (fun _=>rfl) cmpS swoS 96 (xdT Tryz.func95 rfl (by kernel_rfl)) (xj4 (xdT Tryz.func96 rfl (by kernel_rfl)))
    (fun x y W=>Tryz.walkS _ _ _ _ (cmpS x y) (by
     have:=x.1.isLt
     have:=y.1.isLt
     unfold cmpS
     exact xcX (by omega) (by omega)) W)
    ver 75 rfl (xs.map decS) (by simpa using h3)
   rw [List.length_map,xF0 h4] at hgd
   exact hgd
 · simp at h
end Go.Sim.M
namespace Go.Sim.M
abbrev TyP:Type:=Int×Int
def intsP (x:TyP):List Int:=[x.1,x.2]
def cmpP (x y:TyP):Int:=orI (cmpI x.1 y.1) (cmpI x.2 y.2)
end Go.Sim.M
namespace Go.Sim.M
open Go.RowKit Go.Proofs Go.Sort
def isP:AV→Bool
 | .agg [.int .i64 _,.int .i64 _]=>true
 | _=>false
def decP:AV→TyP
 | .agg [.int _ a,.int _ b]=>(a,b)
 | _=>default
noncomputable def srtP (xs:List AV):List AV:=(pdqL cmpP (xs.map decP)).map (encI intsP)
theorem xHy {x:AV} (h:isP x=true):encI intsP (decP x)=x:=by
 unfold isP at h
 split at h
 · rfl
 · simp at h
theorem xGj {xs:List AV} (h:xs.all isP=true):(xs.map decP).map (encI intsP)=xs:=by
 rw [List.map_map]
 conv=>rhs;rw [←List.map_id xs]
 refine List.map_congr_left fun x hx=>?_
 exact xHy (List.all_eq_true.1 h x hx)
theorem ltP (x y:TyP):ltOf cmpP x y=decide (x.1<y.1∨x.1=y.1∧x.2<y.2):=by
 unfold ltOf cmpP orI cmpI
 by_cases h:x.1<y.1∨x.1=y.1∧x.2<y.2
 · rw [decide_eq_true h]
   simp only [decide_eq_true_eq]
   rcases h with h|⟨h,h'⟩
   · simp [h]
   · simp [h,h']
 · rw [decide_eq_false h]
   simp only [decide_eq_false_iff_not]
   have h1:¬ x.1<y.1:=fun e=>h (.inl e)
   by_cases h2:y.1<x.1
   · simp [h1,h2]
   · have h3:x.1=y.1:=by omega
     have h4:¬ x.2<y.2:=fun e=>h (.inr ⟨h3,e⟩)
     by_cases h5:y.2<x.2
     · simp [h1,h2,h4,h5]
     · simp [h1,h2,h4,h5]
theorem swoP:SWO (ltOf cmpP) where
 irrefl x:=by rw [ltP];simp
 trans x y z h1 h2:=by rw [ltP] at *;simp only [decide_eq_true_eq] at *;omega
 ntrans x y z h1 h2:=by rw [ltP] at *;simp only [decide_eq_true_eq,decide_eq_false_iff_not] at *;omega
noncomputable def xyu:List AV→List Box→Option (Bool×AV×List Box)
 | [.osl (.b 0) ver 0 n,.func g []],[⟨ver',2,ty,xs,false,true⟩]=>match Nat.beq g 70&&Nat.beq ty 31 with
  | true=>some (Nat.beq ver ver'&&(Nat.beq n xs.length&&(decide (n<4611686018427387904)&&xs.all isP)),.tuple [],[⟨ver',2,31,srtP xs,false,true⟩])
  | false=>none
 | _,_=>none
theorem xIQ:OmOk Tryz.prog ITryz 69 xyu:=fun ass H r H' h=>by
 unfold xyu at h
 split at h
 · rename_i ver n g ver' ty xs
   split at h
   case h_2=>simp at h
   rename_i hg
   simp only [Bool.and_eq_true] at hg
   obtain rfl:=Nat.eq_of_beq_eq_true hg.1
   obtain rfl:=Nat.eq_of_beq_eq_true hg.2
   simp only [Option.some.injEq,Prod.mk.injEq,Bool.and_eq_true,decide_eq_true_eq] at h
   obtain ⟨⟨h1,h2,h3,h4⟩,rfl,rfl⟩:=h
   obtain rfl:=Nat.eq_of_beq_eq_true h1
   obtain rfl:=Nat.eq_of_beq_eq_true h2
   have hti:∃ ti,tinfo Tryz.prog 31=some ti∧ti.sz=2∧ti.agg=true:=by
    have h:(match tinfo Tryz.prog 31 with|some ti=>(ti.sz==2)&&ti.agg|none=>false)=true:=by kernel_rfl
    split at h
    · rename_i ti hti
      simp only [Bool.and_eq_true,beq_iff_eq] at h
      exact ⟨ti,hti,h.1,h.2⟩
    · simp at h
   obtain ⟨ti,hti,hz,ha⟩:=hti
   have hgd:=xoB (P:=Tryz.prog) (Inv:=ITryz) Tryz.srl69 2 (by decide) (fun w=>by rw [←ha];exact xkx hti w) (fun w=>by rw [←hz];exact xej hti w)
    intsP (fun _=>rfl) cmpP swoP 70 (xdT Tryz.func69 rfl (by kernel_rfl)) (xj4 (xdT Tryz.func70 rfl (by kernel_rfl)))
    (fun x y W=>Tryz.levels2_walk _ _ _ _ W)
    ver 31 rfl (xs.map decP) (by simpa using h3)
   rw [List.length_map,xGj h4] at hgd
   exact hgd
 · simp at h
end Go.Sim.M
namespace Go.Sim.M
open Go.RowKit Go.Proofs Go.Sort
def isI:AV→Bool
 | .int .i64 _=>true
 | _=>false
noncomputable def srtI (xs:List AV):List AV:=(pdqL cmpI (xs.map AV.toInt)).map (AV.int .i64)
theorem xFn {xs:List AV} (h:xs.all isI=true):(xs.map AV.toInt).map (AV.int .i64)=xs:=by
 rw [List.map_map]
 conv=>rhs;rw [←List.map_id xs]
 refine List.map_congr_left fun x hx=>?_
 have:=List.all_eq_true.1 h x hx
 unfold isI at this
 split at this
 · rfl
 · simp at this
theorem ltI (x y:Int):ltOf cmpI x y=decide (x<y):=by
 unfold ltOf cmpI
 by_cases h:x<y
 · simp [h]
 · by_cases h2:y<x<;>simp [h,h2]
theorem swoI:SWO (ltOf cmpI) where
 irrefl x:=by rw [ltI];simp
 trans x y z h1 h2:=by rw [ltI] at *;simp at *;omega
 ntrans x y z h1 h2:=by rw [ltI] at *;simp at *;omega
noncomputable def xyF:List AV→List Box→Option (Bool×AV×List Box)
 | [.osl (.b 0) ver 0 n,.func g []],[⟨ver',1,ty,xs,false,true⟩]=>match Nat.beq g 54&&Nat.beq ty 3 with
  | true=>some (Nat.beq ver ver'&&(Nat.beq n xs.length&&(decide (n<4611686018427387904)&&xs.all isI)),.tuple [],[⟨ver',1,3,srtI xs,false,true⟩])
  | false=>none
 | _,_=>none
theorem xIZ:OmOk Tryz.prog ITryz 53 xyF:=fun ass H r H' h=>by
 unfold xyF at h
 split at h
 · rename_i ver n g ver' ty xs
   split at h
   case h_2=>simp at h
   rename_i hg
   simp only [Bool.and_eq_true] at hg
   obtain rfl:=Nat.eq_of_beq_eq_true hg.1
   obtain rfl:=Nat.eq_of_beq_eq_true hg.2
   simp only [Option.some.injEq,Prod.mk.injEq,Bool.and_eq_true,decide_eq_true_eq] at h
   obtain ⟨⟨h1,h2,h3,h4⟩,rfl,rfl⟩:=h
   obtain rfl:=Nat.eq_of_beq_eq_true h1
   obtain rfl:=Nat.eq_of_beq_eq_true h2
   have hgd:=xyG (P:=Tryz.prog) (Inv:=ITryz) Tryz.srl53 cmpI swoI 54 (xdT Tryz.func53 rfl (by kernel_rfl)) (xj4 (xdT Tryz.func54 rfl (by kernel_rfl)))
    (fun x y W=>(Tryz.cmp_walk x y W).mono fun e w' ⟨h1,h2⟩=>⟨h1,0,#[],by rw [h2];exact (grow_empty _).symm⟩)
    ver 3 rfl (xs.map AV.toInt) (by simpa using h3)
   rw [List.length_map,xFn h4] at hgd
   exact hgd
 · simp at h
end Go.Sim.M
end
noncomputable section
namespace Go.Sim.M
open Go.RowKit Go.Proofs
noncomputable def E1:Env:=(((EKG.withM 129 xyI).withM 95 xyy).withM 69 xyu).withM 53 xyF
theorem xHH:OrcOk Tryz.prog ITryz E1:=(((xI5.withM xIj).withM xIi).withM xIQ).withM xIZ
end Go.Sim.M
end
noncomputable section
set_option maxRecDepth 100000
namespace Go.Sim.M
open Go.IntKind (i64 u64 u8)
open Go.RowKit Go.Proofs
def xke:Env:=E1.fn 29 1 (lsOf []) (lpsOf [])
theorem xw3:OrcOk Tryz.prog (ITryz.at 1) xke:=xHH.fn
theorem xuJ:LoOk Tryz.prog (ITryz.at xke.pin) xke (Tryz.f97.body.getD .skip):=xaF (by kernel_rfl)
def xrd {T:Type} (k:Nat) (b n:Int) (a:LA) (δ:T) (κ:Bool×(Nat×LA)×(Nat×LA)→T):T:=br (decide ((↑k:Int)>0)) (br (decide (0≤i64.wrap ((↑k:Int) - 1))&&decide (i64.wrap ((↑k:Int) - 1)<(↑k:Int))) (br (decide (0+(i64.wrap ((↑k:Int) - 1)).toNat<a.length)&&hasSh1 (Sh.int .i64) ((a.getD (0+(i64.wrap ((↑k:Int) - 1)).toNat) .top).cells.getD 1 .top)) (br (((a.getD (0+(i64.wrap ((↑k:Int) - 1)).toNat) .top).cells.getD 1 .top).toInt==n) (κ (true,(k,a),(0,[]))) (br (k==a.length&&(decide ((k+1)*16≤140737488355328)&&decide (k+1≤4611686018427387904))) (κ (false,(0,[]),(k+1,a++[AV.agg [AV.int .i64 b,AV.int .i64 n]]))) δ)) δ) δ) (br (k==a.length&&(decide ((k+1)*16≤140737488355328)&&decide (k+1≤4611686018427387904))) (κ (false,(0,[]),(k+1,a++[AV.agg [AV.int .i64 b,AV.int .i64 n]]))) δ)
def xen (k:Nat) (a n:Int) (b:LA):Option (Bool×(Nat×LA)×(Nat×LA)):=xrd k a n b none some
theorem xCc (k:Nat) (a n:Int) (xs:LA):Enc (fun (p:Bool×(Nat×LA)×(Nat×LA))=>((br p.1 ((AV.osl 0 0 0 p.2.1.1,([⟨0,2,75,p.2.1.2,false,true⟩]:List Box))) ((AV.osl 0 1 0 p.2.2.1,([⟨1,2,75,p.2.2.2,false,true⟩]:List Box)))):(AV×List Box))) (xen k a n xs) (XFM Tryz.prog xke Tryz.f97 (Tryz.f97.body.getD .skip) [AV.osl (0:Id) 0 0 k,AV.int .i64 a,AV.int .i64 n] [{ ver:=0,sz:=2,ty:=(75:TypeId),xs:=xs,frz:=false,pm:=true }]):=by
 refine eV (xrd k a n xs none (fun (p:Bool×(Nat×LA)×(Nat×LA))=>some ((br p.1 ((AV.osl 0 0 0 p.2.1.1,([⟨0,2,75,p.2.1.2,false,true⟩]:List Box))) ((AV.osl 0 1 0 p.2.2.1,([⟨1,2,75,p.2.2.2,false,true⟩]:List Box)))):(AV×List Box)))) (by kernel_rfl) ?_;unfold xen xrd;repeat' first|exact eN|exact eS rfl|apply eB
def xvf:LA→List Box→Option (Bool×AV×List Box):=omOf (sCons (sEq (pOsl 0 0 0)) (sCons (sEq (pInt .i64)) (sCons (sEq (pInt .i64)) sNil))) (pCons (pBox 0 2 (75:TypeId) false true pAny) pNil) fun (k,(a,(n,_))) (b,_)=>((xen k a n b).isSome,(AV.osl 0 1 0 (br ((xen k a n b).getD (false,(0,[]),(0,[]))).1 ((xen k a n b).getD (false,(0,[]),(0,[]))).2.1.1 ((xen k a n b).getD (false,(0,[]),(0,[]))).2.2.1),([⟨1,2,75,(br ((xen k a n b).getD (false,(0,[]),(0,[]))).1 ((xen k a n b).getD (false,(0,[]),(0,[]))).2.1.2 ((xen k a n b).getD (false,(0,[]),(0,[]))).2.2.2),false,true⟩]:List Box)))
theorem xCn:OmOk Tryz.prog ITryz 97 (xvf):=xfX fun e f j i g=>by
 obtain ⟨k,⟨b,⟨n,_⟩⟩⟩:=e
 obtain ⟨h,_⟩:=f
 obtain ⟨c,a⟩:=Prod.mk.inj g
 have hx:=xCc _ _ _ _ _ (xaf (d:=(false,(0,[]),(0,[]))) c)
 revert hx a
 generalize ((xen k b n h).getD (false,(0,[]),(0,[])))=p
 intro a hx
 obtain ⟨rfl,rfl⟩:=Prod.mk.inj a
 obtain ⟨t,⟨l,m⟩,o,q⟩:=p
 have hg:GoodM Tryz.prog ITryz 97 _ _ _ _:=xdM (p:=xke.pin) (xek mxTryz (inv0Ok Tryz.prog _) rfl xw3 rfl Tryz.func97 rfl (by kernel_rfl) xuJ hx)
 cases t
 · exact hg
 · exact GoodM.bump1 rfl (by decide) hg
def xph:Env:=E1.withM 97 xvf
theorem xma:OrcOk Tryz.prog ITryz xph:=xHH.withM xCn
def xjA:Env:=xph.fn 106 0 (lsOf []) (lpsOf [])
theorem xyM:OrcOk Tryz.prog (ITryz.at 0) xjA:=xma.fn
theorem xtK:LoOk Tryz.prog (ITryz.at xjA.pin) xjA (loopAt Tryz.f72 0):=xaF (by kernel_rfl)
def xjo {T:Type} (d:LA) (e:Int) (a:Nat) (c:Int) (b:LA) (δ:T) (κl:(Nat×Int×LA)→T) (κr:(Nat×LA)→T):T:=br (decide (c<e)) (br (decide (0≤c)&&decide (c<d.length)) (br (decide (c.toNat<d.length)&&((d.getD c.toNat .top).cells.length==3&&hasShs [Sh.int .i64,Sh.int .i64,Sh.int .i64] (d.getD c.toNat .top).cells 0)) (br (xe1 ((d.getD c.toNat .top).cells.getD 0 .top).toInt ((d.getD c.toNat .top).cells.getD 1 .top).toInt) (br (a==b.length&&(decide ((a+2)*16≤140737488355328)&&decide (a+2≤4611686018427387904))) (κl (a+2,i64.wrap (c+1),b++[AV.agg [AV.int .i64 ((d.getD c.toNat .top).cells.getD 0 .top).toInt,AV.int .i64 ((d.getD c.toNat .top).cells.getD 2 .top).toInt],AV.agg [AV.int .i64 ((d.getD c.toNat .top).cells.getD 1 .top).toInt,AV.int .i64 (i64.wrap (0 - ((d.getD c.toNat .top).cells.getD 2 .top).toInt))]])) δ) (κl (a,i64.wrap (c+1),b))) δ) δ) (κr (a,b))
def xc8 (c:LA) (d:Int):(Nat×Int×LA)→Option ((Nat×Int×LA)⊕(Nat×LA)):=fun (b,e,a)=>xjo c d b e a none (fun s=>some (.inl s)) (fun p=>some (.inr p))
def xhH (c:LA) (d:Int):(Nat×Int×LA)→LA×List Box:=fun (b,e,a)=>([AV.osl 0 0 0 b,AV.list 3 c,AV.int .i64 d,AV.int .i64 e],[⟨0,2,75,a,false,true⟩])
def xgh (a:LA) (b:Int):(Nat×LA)→LR:=fun p=>(.leaf (.exit 0) [AV.osl 0 0 0 p.1] [⟨0,2,75,p.2,false,true⟩])
abbrev xz9 (a:LA) (H:List Box):=XR Tryz.prog xjA [3,10,11,12] [3] [(3,2,75)] (loopAt Tryz.f72 0) a H
theorem xz4 (a:LA) (b:Int) (s:Nat×Int×LA):Enc (encR (xhH a b) (xgh a b)) (xc8 a b s) (xz9 (xhH a b s).1 (xhH a b s).2):=by
 obtain ⟨d,e,c⟩:=s
 refine eV (xjo a b d e c none (fun s=>some (encR (xhH a b) (xgh a b) (.inl s))) (fun p=>some (encR (xhH a b) (xgh a b) (.inr p)))) (by kernel_rfl) ?_;unfold xc8 xjo;repeat' first|exact eN|exact eS rfl|apply eB
def xiZ:Lp:=lpOf [3,10,11,12] [3] [(3,2,75)] (pCons (pOsl 0 0 0) (pCons (pList 3 pAny) (pCons (pInt .i64) (pCons (pInt .i64) pNil)))) (pCons (pBox 0 2 75 false true pAny) pNil) fun (b,(c,(d,(e,_)))) (a,_)=>((Iter (xc8 c d) (b,e,a)).isSome,xgh c d ((Iter (xc8 c d) (b,e,a)).getD (0,[])))
theorem xwB:LoopOk Tryz.prog (ITryz.at xjA.pin) xjA.nt (loopAt Tryz.f72 0) xiZ:=xbr fun g h j i=>by
 obtain ⟨b,⟨c,⟨d,⟨e,_⟩⟩⟩⟩:=g
 obtain ⟨a,_⟩:=h
 obtain ⟨f,rfl⟩:=Prod.mk.inj i
 exact xaG mxTryz (inv0Ok Tryz.prog _) rfl xyM xtK (xhH c d) (xgh c d) (fun p=>by simp only [xgh,LR.eval];first|(simp;done)|(repeat' split<;>simp)) (xz4 c d) (s:=(b,e,a)) (xaf f)
def xjz:Env:=xph.fn 106 0 (lsOf []) (lpsOf [(3,xiZ)])
theorem xza:OrcOk Tryz.prog (ITryz.at 0) xjz:=xma.fn
theorem xtG:LoOk Tryz.prog (ITryz.at xjz.pin) xjz (loopAt Tryz.f72 1):=xaF (by kernel_rfl)
def xru (i:Int) (a:LA):=decide (0+i.toNat<a.length)
def xoM {T:Type} (b e:Nat) (d i:Int) (a c:LA) (δ:T) (κl:(Int×Int×LA×LA)→T) (κr:(Int×Int×LA×LA)→T):T:=br (decide (i<(↑b:Int))) (br (decide (0≤i)&&decide (i<(↑b:Int))) (br (xru i a&&hasSh1 (Sh.int .i64) ((a.getD (0+i.toNat) .top).cells.getD 0 .top)) (br (((a.getD (0+i.toNat) .top).cells.getD 0 .top).toInt==0) (br (decide (0≤i)&&decide (i<(↑b:Int))) (br (xru i a&&hasSh1 (Sh.int .i64) ((a.getD (0+i.toNat) .top).cells.getD 1 .top)) (κl (i64.wrap (d+((a.getD (0+i.toNat) .top).cells.getD 1 .top).toInt),i64.wrap (i+1),a,c)) δ) δ) (κr (d,i,a,c))) δ) δ) (κr (d,i,a,c))
def xeJ (b d:Nat):(Int×Int×LA×LA)→Option ((Int×Int×LA×LA)⊕(Int×Int×LA×LA)):=fun (e,i,a,c)=>xoM b d e i a c none (fun s=>some (.inl s)) (fun p=>some (.inr p))
def xhK (b d:Nat):(Int×Int×LA×LA)→LA×List Box:=fun (e,i,a,c)=>([AV.osl 0 0 0 b,AV.osl 1 0 0 d,AV.int .i64 e,AV.int .i64 i],[⟨0,2,75,a,false,true⟩,⟨0,2,75,c,false,true⟩])
def xgs (a b:Nat):(Int×Int×LA×LA)→LR:=fun p=>(.leaf (.exit 2) [AV.osl 0 0 0 a,AV.osl 1 0 0 b,AV.int .i64 p.1,AV.int .i64 p.2.1] [⟨0,2,75,p.2.2.1,false,true⟩,⟨0,2,75,p.2.2.2,false,true⟩])
abbrev xz2 (a:LA) (H:List Box):=XR Tryz.prog xjz [3,6,7,8] [3,6,7,8] [(3,2,75),(6,2,75)] (loopAt Tryz.f72 1) a H
theorem xz7 (a b:Nat) (s:Int×Int×LA×LA):Enc (encR (xhK a b) (xgs a b)) (xeJ a b s) (xz2 (xhK a b s).1 (xhK a b s).2):=by
 obtain ⟨e,i,c,d⟩:=s
 refine eV (xoM a b e i c d none (fun s=>some (encR (xhK a b) (xgs a b) (.inl s))) (fun p=>some (encR (xhK a b) (xgs a b) (.inr p)))) (by kernel_rfl) ?_;unfold xeJ xoM;repeat' first|exact eN|exact eS rfl|apply eB
def xkJ:Lp:=lpOf [3,6,7,8] [3,6,7,8] [(3,2,75),(6,2,75)] (pCons (pOsl 0 0 0) (pCons (pOsl 1 0 0) (pCons (pInt .i64) (pCons (pInt .i64) pNil)))) (pCons (pBox 0 2 75 false true pAny) (pCons (pBox 0 2 75 false true pAny) pNil)) fun (a,(c,(e,(i,_)))) (b,(d,_))=>((Iter (xeJ a c) (e,i,b,d)).isSome,xgs a c ((Iter (xeJ a c) (e,i,b,d)).getD (0,0,[],[])))
theorem xwD:LoopOk Tryz.prog (ITryz.at xjz.pin) xjz.nt (loopAt Tryz.f72 1) xkJ:=xbr fun g h k j=>by
 obtain ⟨a,⟨b,⟨e,⟨i,_⟩⟩⟩⟩:=g
 obtain ⟨c,⟨d,_⟩⟩:=h
 obtain ⟨f,rfl⟩:=Prod.mk.inj j
 exact xaG mxTryz (inv0Ok Tryz.prog _) rfl xza xtG (xhK a b) (xgs a b) (fun p=>by simp only [xgs,LR.eval];first|(simp;done)|(repeat' split<;>simp)) (xz7 a b) (s:=(e,i,c,d)) (xaf f)
def xju:Env:=xph.fn 106 0 (lsOf []) (lpsOf [(3,xiZ),(11,xkJ)])
theorem xyX:OrcOk Tryz.prog (ITryz.at 0) xju:=xma.fn
theorem xtL:LoOk Tryz.prog (ITryz.at xju.pin) xju (loopAt Tryz.f72 3):=xaF (by kernel_rfl)
def xi3 (i:Int) (a:LA):=decide (0+i.toNat<a.length)
def xhP {T:Type} (b f:Nat) (e d i:Int) (a c:LA) (δ:T) (κl:(Int×Int×LA×LA)→T) (κr:(Int×Int×LA×LA)→T):T:=br (decide (i<(↑b:Int))) (br (decide (0≤i)&&decide (i<(↑b:Int))) (br (xi3 i a&&hasSh1 (Sh.int .i64) ((a.getD (0+i.toNat) .top).cells.getD 0 .top)) (br (((a.getD (0+i.toNat) .top).cells.getD 0 .top).toInt==e) (br (decide (0≤i)&&decide (i<(↑b:Int))) (br (xi3 i a&&hasSh1 (Sh.int .i64) ((a.getD (0+i.toNat) .top).cells.getD 1 .top)) (κl (i64.wrap (d+((a.getD (0+i.toNat) .top).cells.getD 1 .top).toInt),i64.wrap (i+1),a,c)) δ) δ) (κr (d,i,a,c))) δ) δ) (κr (d,i,a,c))
def xcK (b d:Nat) (e:Int):(Int×Int×LA×LA)→Option ((Int×Int×LA×LA)⊕(Int×Int×LA×LA)):=fun (f,i,a,c)=>xhP b d e f i a c none (fun s=>some (.inl s)) (fun p=>some (.inr p))
def xhJ (b d:Nat) (e:Int):(Int×Int×LA×LA)→LA×List Box:=fun (f,i,a,c)=>([AV.osl 0 0 0 b,AV.osl 1 0 0 d,AV.int .i64 f,AV.int .i64 i,AV.int .i64 e],[⟨0,2,75,a,false,true⟩,⟨0,2,75,c,false,true⟩])
def xgB (a b:Nat) (c:Int):(Int×Int×LA×LA)→LR:=fun p=>(.leaf (.exit 6) [AV.osl 0 0 0 a,AV.osl 1 0 0 b,AV.int .i64 p.1,AV.int .i64 p.2.1,AV.int .i64 c] [⟨0,2,75,p.2.2.1,false,true⟩,⟨0,2,75,p.2.2.2,false,true⟩])
abbrev xAa (a:LA) (H:List Box):=XR Tryz.prog xju [3,6,7,8,9] [3,6,7,8,9] [(3,2,75),(6,2,75)] (loopAt Tryz.f72 3) a H
theorem xAb (a b:Nat) (c:Int) (s:Int×Int×LA×LA):Enc (encR (xhJ a b c) (xgB a b c)) (xcK a b c s) (xAa (xhJ a b c s).1 (xhJ a b c s).2):=by
 obtain ⟨f,i,d,e⟩:=s
 refine eV (xhP a b c f i d e none (fun s=>some (encR (xhJ a b c) (xgB a b c) (.inl s))) (fun p=>some (encR (xhJ a b c) (xgB a b c) (.inr p)))) (by kernel_rfl) ?_;unfold xcK xhP;repeat' first|exact eN|exact eS rfl|apply eB
def xnD:Lp:=lpOf [3,6,7,8,9] [3,6,7,8,9] [(3,2,75),(6,2,75)] (pCons (pOsl 0 0 0) (pCons (pOsl 1 0 0) (pCons (pInt .i64) (pCons (pInt .i64) (pCons (pInt .i64) pNil))))) (pCons (pBox 0 2 75 false true pAny) (pCons (pBox 0 2 75 false true pAny) pNil)) fun (a,(c,(f,(i,(e,_))))) (b,(d,_))=>((Iter (xcK a c e) (f,i,b,d)).isSome,xgB a c e ((Iter (xcK a c e) (f,i,b,d)).getD (0,0,[],[])))
theorem xp9:LoopOk Tryz.prog (ITryz.at xju.pin) xju.nt (loopAt Tryz.f72 3) xnD:=xbr fun h j l k=>by
 obtain ⟨a,⟨b,⟨f,⟨i,⟨d,_⟩⟩⟩⟩⟩:=h
 obtain ⟨c,⟨e,_⟩⟩:=j
 obtain ⟨g,rfl⟩:=Prod.mk.inj k
 exact xaG mxTryz (inv0Ok Tryz.prog _) rfl xyX xtL (xhJ a b d) (xgB a b d) (fun p=>by simp only [xgB,LR.eval];first|(simp;done)|(repeat' split<;>simp)) (xAb a b d) (s:=(f,i,c,e)) (xaf g)
def xjy:Env:=xph.fn 106 0 (lsOf []) (lpsOf [(3,xiZ),(11,xkJ),(17,xnD)])
theorem xyY:OrcOk Tryz.prog (ITryz.at 0) xjy:=xma.fn
theorem xt7:LoOk Tryz.prog (ITryz.at xjy.pin) xjy (loopAt Tryz.f72 2):=xa7 (ls:=[loopAt Tryz.f72 3]) (by kernel_rfl) (lkC xp9 lkN)
def xim (i:Int) (a:LA):=decide (0+i.toNat<a.length)&&hasSh1 (Sh.int .i64) ((a.getD (0+i.toNat) .top).cells.getD 0 .top)
def xgr (i:Int) (a:LA):=((a.getD (0+i.toNat) .top).cells.getD 0 .top).toInt
def xhx (b d:Nat) (e i:Int) (a c:LA):=Iter (xcK b d (xgr i a)) (e,i,a,c)
def xiY (b d:Nat) (e i:Int) (a c:LA):=(xhx b d e i a c).getD (0,0,[],[])
def xiX (b d:Nat) (e i:Int) (a c:LA):=(xiY b d e i a c).fst
def xiU (b d:Nat) (e i:Int) (a c:LA):=(xiY b d e i a c).snd
def xi8 (b d:Nat) (e i:Int) (a c:LA):=(xiU b d e i a c).snd
def xi7 (b c:Nat) (e i:Int) (a d:LA):=xen c (xgr i a) (xiX b c e i a d) (xi8 b c e i a d).snd
def xi5 (b d:Nat) (e i:Int) (a c:LA):=(xi7 b d e i a c).getD (false,(0,[]),0,[])
def xiT (b d:Nat) (e i:Int) (a c:LA):=(xi5 b d e i a c).fst
def xiQ (b d:Nat) (e i:Int) (a c:LA):=(xi5 b d e i a c).snd
def xi2 (b d:Nat) (e i:Int) (a c:LA):=(xiQ b d e i a c).fst
def xiS (b d:Nat) (e i:Int) (a c:LA):=(xiQ b d e i a c).snd
def xhR {T:Type} (b d:Nat) (e i:Int) (a c:LA) (δ:T) (κl:(Nat×Int×Int×LA×LA)→T) (κr:(Nat×LA)→T):T:=br (decide (i<(↑b:Int))) (br (decide (0≤i)&&decide (i<(↑b:Int))) (br (xim i a) (br (decide (xgr i a<1099511627776)) (br (decide (0≤i)&&decide (i<(↑b:Int))) (br (xim i a) (br ((xhx b d e i a c).isSome) (br ((xi7 b d e i a c).isSome) (κl (br (xiT b d e i a c) (xi2 b d e i a c).fst (xiS b d e i a c).fst,xiX b d e i a c,(xiU b d e i a c).fst,(xi8 b d e i a c).fst,br (xiT b d e i a c) (xi2 b d e i a c).snd (xiS b d e i a c).snd)) δ) δ) δ) δ) (κr (d,c))) δ) δ) (κr (d,c))
def xc9 (b:Nat):(Nat×Int×Int×LA×LA)→Option ((Nat×Int×Int×LA×LA)⊕(Nat×LA)):=fun (d,e,i,a,c)=>xhR b d e i a c none (fun s=>some (.inl s)) (fun p=>some (.inr p))
def xhN (b:Nat):(Nat×Int×Int×LA×LA)→LA×List Box:=fun (d,e,i,a,c)=>([AV.osl 0 0 0 b,AV.osl 1 0 0 d,AV.int .i64 e,AV.int .i64 i],[⟨0,2,75,a,false,true⟩,⟨0,2,75,c,false,true⟩])
def xgp (a:Nat):(Nat×LA)→LR:=fun p=>(.leaf (.exit 4) [AV.osl 0 0 0 p.1] [⟨0,2,75,p.2,false,true⟩])
abbrev xz3 (a:LA) (H:List Box):=XR Tryz.prog xjy [3,6,7,8] [6] [(3,2,75),(6,2,75)] (loopAt Tryz.f72 2) a H
theorem xAj (a:Nat) (s:Nat×Int×Int×LA×LA):Enc (encR (xhN a) (xgp a)) (xc9 a s) (xz3 (xhN a s).1 (xhN a s).2):=by
 obtain ⟨d,e,i,b,c⟩:=s
 refine eV (xhR a d e i b c none (fun s=>some (encR (xhN a) (xgp a) (.inl s))) (fun p=>some (encR (xhN a) (xgp a) (.inr p)))) (by kernel_rfl) ?_;unfold xc9 xhR;repeat' first|exact eN|exact eS rfl|apply eB
def xrN:Lp:=lpOf [3,6,7,8] [6] [(3,2,75),(6,2,75)] (pCons (pOsl 0 0 0) (pCons (pOsl 1 0 0) (pCons (pInt .i64) (pCons (pInt .i64) pNil)))) (pCons (pBox 0 2 75 false true pAny) (pCons (pBox 0 2 75 false true pAny) pNil)) fun (a,(d,(e,(i,_)))) (b,(c,_))=>((Iter (xc9 a) (d,e,i,b,c)).isSome,xgp a ((Iter (xc9 a) (d,e,i,b,c)).getD (0,[])))
theorem xwZ:LoopOk Tryz.prog (ITryz.at xjy.pin) xjy.nt (loopAt Tryz.f72 2) xrN:=xbr fun g h k j=>by
 obtain ⟨a,⟨d,⟨e,⟨i,_⟩⟩⟩⟩:=g
 obtain ⟨b,⟨c,_⟩⟩:=h
 obtain ⟨f,rfl⟩:=Prod.mk.inj j
 exact xaG mxTryz (inv0Ok Tryz.prog _) rfl xyY xt7 (xhN a) (xgp a) (fun p=>by simp only [xgp,LR.eval];first|(simp;done)|(repeat' split<;>simp)) (xAj a) (s:=(d,e,i,b,c)) (xaf f)
def xlA:Env:=xph.fn 106 0 (lsOf []) (lpsOf [(3,xiZ),(11,xkJ),(17,xnD),(15,xrN)])
theorem xyJ:OrcOk Tryz.prog (ITryz.at 0) xlA:=xma.fn
theorem xvE:LoOk Tryz.prog (ITryz.at xlA.pin) xlA (Tryz.f72.body.getD .skip):=xa7 (ls:=[loopAt Tryz.f72 0,loopAt Tryz.f72 1,loopAt Tryz.f72 2,loopAt Tryz.f72 3]) (by kernel_rfl) (lkC xwB (lkC xwD (lkC xwZ (lkC xp9 lkN))))
def xpl (l:LA):=(Iter (xc8 l (↑l.length:Int)) (0,0,[])).getD (0,[])
def xkc (l:LA):=(xpl l).fst
def xmz (l:LA):=(xpl l).snd
def xpq (l:LA):=Iter (xeJ (xkc l) 0) (0,0,srtS (xmz l),[])
def xpA (l:LA):=(xpq l).getD (0,0,[],[])
def xpN (l:LA):=(xpA l).fst
def xpa (l:LA):=(xpA l).snd
def xpE (l:LA):=(xpa l).snd
def xq3 (l:LA):=xen 0 0 (xpN l) (xpE l).snd
def xrc (l:LA):=(xq3 l).getD (false,(0,[]),0,[])
def xq2 (l:LA):=(xrc l).fst
def xqM (l:LA):=(xrc l).snd
def xqH (l:LA):=(xqM l).snd
def xqN (l:LA):=(xqM l).fst
def xqT (l:LA):=Iter (xc9 (xkc l)) (br (xq2 l) (xqN l).fst (xqH l).fst,xpN l,(xpa l).fst,(xpE l).fst,br (xq2 l) (xqN l).snd (xqH l).snd)
def xrb (l:LA):=(xqT l).getD (0,[])
def xrf (l:LA):=(xrb l).snd
def xqW (l:LA):=(xrb l).fst
def xo5 {T:Type} (l:LA) (δ:T) (κ:LA→T):T:=br ((Iter (xc8 l (↑l.length:Int)) (0,0,[])).isSome) (br ((xkc l).beq (xmz l).length&&(decide (xkc l<4611686018427387904)&&(xmz l).all isS)) (br ((xpq l).isSome) (br ((xq3 l).isSome) (br ((xqT l).isSome) (br (decide (0+xqW l≤(xrf l).length)&&true) (κ (List.take (xqW l) (List.drop 0 (xrf l)))) δ) δ) δ) δ) δ) δ
def xkd (l:LA):Option (LA):=xo5 l none some
theorem xDc (l:LA):Enc (fun (p:LA)=>((AV.list 2 p):AV)) (xkd l) (XF Tryz.prog xlA Tryz.f72 (Tryz.f72.body.getD .skip) [AV.list 3 l]):=by
 refine eV (xo5 l none (fun (p:LA)=>some ((AV.list 2 p):AV))) (by kernel_rfl) ?_;unfold xkd xo5;repeat' first|exact eN|exact eS rfl|apply eB
def xwj:LA→Option (Bool×AV):=ocOf (sCons (sList 3 pAny) sNil) fun (l,_)=>((xkd l).isSome,(AV.list 2 ((xkd l).getD [])))
theorem xDQ:OcOk Tryz.prog ITryz 72 (xwj):=xbc fun c f e=>by
 obtain ⟨l,_⟩:=c
 obtain ⟨a,b⟩:=Prod.mk.inj e
 refine xaQ (p:=xlA.pin) (xa1 mxTryz (inv0Ok Tryz.prog _) rfl xyJ Tryz.func72 rfl (by kernel_rfl) xvE ((xDc _ _ (xaf (d:=[]) a)).trans ?_))
 exact congrArg some b
def xwx:Env:=xph.with 72 xwj
theorem xtf:OrcOk Tryz.prog ITryz xwx:=xma.with xDQ
def xes:Env:=xwx.fn 20 0 (lsOf []) (lpsOf [])
theorem xqZ:OrcOk Tryz.prog (ITryz.at 0) xes:=xtf.fn
theorem xoL:LoOk Tryz.prog (ITryz.at xes.pin) xes (loopAt Tryz.f45 0):=xaF (by kernel_rfl)
def xeW {T:Type} (d:LA) (e:Int) (b:Nat) (a:Int) (c:LA) (δ:T) (κl:(Nat×Int×LA)→T) (κr:(Nat×LA)→T):T:=br (decide (a<e)) (br (decide (0≤a)&&decide (a<d.length)) (br (decide (a.toNat<d.length)&&((d.getD a.toNat .top).cells.length==2&&hasShs [Sh.int .i64,Sh.int .i64] (d.getD a.toNat .top).cells 0)) (br (b==c.length&&(decide ((b+1)*24≤140737488355328)&&decide (b+1≤4611686018427387904))) (κl (b+1,i64.wrap (a+1),c++[AV.agg [AV.int .i64 ((d.getD a.toNat .top).cells.getD 0 .top).toInt,AV.int .i64 ((d.getD a.toNat .top).cells.getD 1 .top).toInt,AV.int .i64 1]])) δ) δ) δ) (κr (b,c))
def xbl (c:LA) (d:Int):(Nat×Int×LA)→Option ((Nat×Int×LA)⊕(Nat×LA)):=fun (b,e,a)=>xeW c d b e a none (fun s=>some (.inl s)) (fun p=>some (.inr p))
def xdF (c:LA) (d:Int):(Nat×Int×LA)→LA×List Box:=fun (b,e,a)=>([AV.osl 0 0 0 b,AV.list 2 c,AV.int .i64 d,AV.int .i64 e],[⟨0,3,78,a,false,true⟩])
def xc4 (a:LA) (b:Int):(Nat×LA)→LR:=fun p=>(.leaf (.exit 0) [AV.osl 0 0 0 p.1] [⟨0,3,78,p.2,false,true⟩])
abbrev xrR (a:LA) (H:List Box):=XR Tryz.prog xes [3,6,7,8] [3] [(3,3,78)] (loopAt Tryz.f45 0) a H
theorem xrq (a:LA) (b:Int) (s:Nat×Int×LA):Enc (encR (xdF a b) (xc4 a b)) (xbl a b s) (xrR (xdF a b s).1 (xdF a b s).2):=by
 obtain ⟨d,e,c⟩:=s
 refine eV (xeW a b d e c none (fun s=>some (encR (xdF a b) (xc4 a b) (.inl s))) (fun p=>some (encR (xdF a b) (xc4 a b) (.inr p)))) (by kernel_rfl) ?_;unfold xbl xeW;repeat' first|exact eN|exact eS rfl|apply eB
def xlo:Lp:=lpOf [3,6,7,8] [3] [(3,3,78)] (pCons (pOsl 0 0 0) (pCons (pList 2 pAny) (pCons (pInt .i64) (pCons (pInt .i64) pNil)))) (pCons (pBox 0 3 78 false true pAny) pNil) fun (b,(c,(d,(e,_)))) (a,_)=>((Iter (xbl c d) (b,e,a)).isSome,xc4 c d ((Iter (xbl c d) (b,e,a)).getD (0,[])))
theorem xpY:LoopOk Tryz.prog (ITryz.at xes.pin) xes.nt (loopAt Tryz.f45 0) xlo:=xbr fun f g j h=>by
 obtain ⟨d,⟨a,⟨b,⟨i,_⟩⟩⟩⟩:=f
 obtain ⟨c,_⟩:=g
 obtain ⟨e,rfl⟩:=Prod.mk.inj h
 exact xaG mxTryz (inv0Ok Tryz.prog _) rfl xqZ xoL (xdF a b) (xc4 a b) (fun p=>by simp only [xc4,LR.eval];first|(simp;done)|(repeat' split<;>simp)) (xrq a b) (s:=(d,i,c)) (xaf e)
def xfG:Env:=xwx.fn 20 0 (lsOf []) (lpsOf [(3,xlo)])
theorem xra:OrcOk Tryz.prog (ITryz.at 0) xfG:=xtf.fn
theorem xpF:LoOk Tryz.prog (ITryz.at xfG.pin) xfG (Tryz.f45.body.getD .skip):=xa7 (ls:=[loopAt Tryz.f45 0]) (by kernel_rfl) (lkC xpY lkN)
def xjL (l:LA):=(Iter (xbl l (↑l.length:Int)) (0,0,[])).getD (0,[])
def xjJ (l:LA):=(xjL l).snd
def xjB (l:LA):=(xjL l).fst
def xjD (l:LA):=xkd (List.take (xjB l) (List.drop 0 (xjJ l)))
def xif {T:Type} (l:LA) (δ:T) (κ:LA→T):T:=br ((Iter (xbl l (↑l.length:Int)) (0,0,[])).isSome) (br (decide (0+xjB l≤(xjJ l).length)&&true) (br ((xjD l).isSome) (κ ((xjD l).getD [])) δ) δ) δ
def xcJ (l:LA):Option (LA):=xif l none some
theorem xtN (l:LA):Enc (fun (p:LA)=>((AV.list 2 p):AV)) (xcJ l) (XF Tryz.prog xfG Tryz.f45 (Tryz.f45.body.getD .skip) [AV.list 2 l]):=by
 refine eV (xif l none (fun (p:LA)=>some ((AV.list 2 p):AV))) (by kernel_rfl) ?_;unfold xcJ xif;repeat' first|exact eN|exact eS rfl|apply eB
def xon:LA→Option (Bool×AV):=ocOf (sCons (sList 2 pAny) sNil) fun (l,_)=>((xcJ l).isSome,(AV.list 2 ((xcJ l).getD [])))
theorem xty:OcOk Tryz.prog ITryz 45 (xon):=xbc fun c f e=>by
 obtain ⟨l,_⟩:=c
 obtain ⟨a,b⟩:=Prod.mk.inj e
 refine xaQ (p:=xfG.pin) (xa1 mxTryz (inv0Ok Tryz.prog _) rfl xra Tryz.func45 rfl (by kernel_rfl) xpF ((xtN _ _ (xaf (d:=[]) a)).trans ?_))
 exact congrArg some b
def xEQ:Env:=xwx.with 45 xon
theorem xFT:OrcOk Tryz.prog ITryz xEQ:=xtf.with xty
abbrev EKP1:Env:=xEQ
theorem xue:OrcOk Tryz.prog ITryz EKP1:=xFT
end Go.Sim.M
end
noncomputable section
set_option maxRecDepth 100000
namespace Go.Sim.M
open Go.IntKind (i64 u64 u8)
open Go.RowKit Go.Proofs
def xhI:Env:=EKP1.fn 71 5 (lsOf []) (lpsOf [])
theorem xvR:OrcOk Tryz.prog (ITryz.at 5) xhI:=xue.fn
theorem xso:LoOk Tryz.prog (ITryz.at xhI.pin) xhI (loopAt Tryz.f68 1):=xaF (by kernel_rfl)
def xh8 {T:Type} (o n:Int) (f g:Nat) (k p m j:Int) (i l d h a:Nat) (b:LA) (e:Nat) (c:LA) (δ:T) (κl:(Int×Int×Nat×Nat×Nat×Nat×Nat×LA×Nat×LA)→T) (κr:(Int×Nat×Nat×Nat×Nat×LA×Nat×LA×Nat)→T):T:=br (decide (m<p)) (br (a==f) (br (a==f) (br (a==f&&(decide (g<b.length)&&hasSh1 (Sh.int .i64) ((b.getD g .top).cells.getD 0 .top))) (br (e==h&&(d==c.length&&(decide ((d+1)*16≤140737488355328)&&decide (d+1≤4611686018427387904)))) (κl (i64.wrap (m+1),j,i,l,d+1,h+1,a,List.take i b,h+1,c++[AV.agg [AV.int .i64 ((b.getD g .top).cells.getD 0 .top).toInt,AV.int .i64 o]])) δ) δ) δ) δ) (κr (j,l,i,h,d,b,a,c,e))
def xcc (m n:Int) (e f:Nat) (k o:Int):(Int×Int×Nat×Nat×Nat×Nat×Nat×LA×Nat×LA)→Option ((Int×Int×Nat×Nat×Nat×Nat×Nat×LA×Nat×LA)⊕(Int×Nat×Nat×Nat×Nat×LA×Nat×LA×Nat)):=fun (q,g,h,i,j,l,a,b,c,d)=>xh8 m n e f k o q g h i j l a b c d none (fun s=>some (.inl s)) (fun p=>some (.inr p))
def xgu (m n:Int) (e f:Nat) (k o:Int):(Int×Int×Nat×Nat×Nat×Nat×Nat×LA×Nat×LA)→LA×List Box:=fun (p,g,h,i,j,l,a,b,c,d)=>([AV.int .i64 m,AV.int .i64 n,AV.own 0 0 0 0,AV.own 1 0 0 0,AV.own 2 0 0 0,AV.own 3 e f 0,AV.int .i64 k,AV.int .i64 o,AV.int .i64 p],[⟨0,1,3,[AV.int .i64 g],false,true⟩,⟨0,1,84,[AV.osl 3 i 0 h],false,false⟩,⟨0,1,53,[AV.osl 4 l 0 j],false,false⟩,⟨a,2,86,b,false,true⟩,⟨c,2,31,d,false,true⟩])
def xfo (c n:Int) (a b:Nat) (k d:Int):(Int×Nat×Nat×Nat×Nat×LA×Nat×LA×Nat)→LR:=fun p=>(.leaf (.exit 2) [AV.int .i64 c,AV.int .i64 n,AV.own 0 0 0 0,AV.own 1 0 0 0,AV.own 2 0 0 0,AV.own 3 a b 0,AV.int .i64 k] [⟨0,1,3,[AV.int .i64 p.1],false,true⟩,⟨0,1,84,[AV.osl 3 p.2.1 0 p.2.2.1],false,false⟩,⟨0,1,53,[AV.osl 4 p.2.2.2.1 0 p.2.2.2.2.1],false,false⟩,⟨p.2.2.2.2.2.2.1,2,86,p.2.2.2.2.2.1,false,true⟩,⟨p.2.2.2.2.2.2.2.2,2,31,p.2.2.2.2.2.2.2.1,false,true⟩])
abbrev xwg (a:LA) (H:List Box):=XR Tryz.prog xhI [0,1,2,3,4,7,8,37,38] [0,1,2,3,4,7,8] [(3,0,0)] (loopAt Tryz.f68 1) a H
theorem xwQ (c n:Int) (a b:Nat) (k d:Int) (s:Int×Int×Nat×Nat×Nat×Nat×Nat×LA×Nat×LA):Enc (encR (xgu c n a b k d) (xfo c n a b k d)) (xcc c n a b k d s) (xwg (xgu c n a b k d s).1 (xgu c n a b k d s).2):=by
 obtain ⟨q,i,j,l,m,o,e,f,g,h⟩:=s
 refine eV (xh8 c n a b k d q i j l m o e f g h none (fun s=>some (encR (xgu c n a b k d) (xfo c n a b k d) (.inl s))) (fun p=>some (encR (xgu c n a b k d) (xfo c n a b k d) (.inr p)))) (by kernel_rfl) ?_;unfold xcc xh8;repeat' first|exact eN|exact eS rfl|apply eB
def xlQ:Lp:=lpOf [0,1,2,3,4,7,8,37,38] [0,1,2,3,4,7,8] [(3,0,0)] (pCons (pInt .i64) (pCons (pInt .i64) (pCons (pOwn 0 0 0 0) (pCons (pOwn 1 0 0 0) (pCons (pOwn 2 0 0 0) (pCons (pOwnV 3 0) (pCons (pInt .i64) (pCons (pInt .i64) (pCons (pInt .i64) pNil))))))))) (pCons (pBox 0 1 3 false true (pCons (pInt .i64) pNil)) (pCons (pBox 0 1 84 false false (pCons (pOslV 3 0) pNil)) (pCons (pBox 0 1 53 false false (pCons (pOslV 4 0) pNil)) (pCons (pBoxV 2 86 false true pAny) (pCons (pBoxV 2 31 false true pAny) pNil))))) fun (g,(n,(_,(_,(_,((e,f),(k,(h,(p,_))))))))) ((i,_),(((j,l),_),(((m,o),_),((a,b),((c,d),_)))))=>((Iter (xcc g n e f k h) (p,i,l,j,o,m,a,b,c,d)).isSome,xfo g n e f k h ((Iter (xcc g n e f k h) (p,i,l,j,o,m,a,b,c,d)).getD (0,0,0,0,0,[],0,[],0)))
theorem xoS:LoopOk Tryz.prog (ITryz.at xhI.pin) xhI.nt (loopAt Tryz.f68 1) xlQ:=xbr fun t u w v=>by
 obtain ⟨g,⟨n,⟨_,⟨_,⟨_,⟨⟨a,b⟩,⟨k,⟨h,⟨q,_⟩⟩⟩⟩⟩⟩⟩⟩⟩:=t
 obtain ⟨⟨i,_⟩,⟨⟨⟨j,l⟩,_⟩,⟨⟨⟨m,o⟩,_⟩,⟨⟨c,d⟩,⟨⟨e,f⟩,_⟩⟩⟩⟩⟩:=u
 obtain ⟨r,rfl⟩:=Prod.mk.inj v
 exact xaG mxTryz (inv0Ok Tryz.prog _) rfl xvR xso (xgu g n a b k h) (xfo g n a b k h) (fun p=>by simp only [xfo,LR.eval];first|(simp;done)|(repeat' split<;>simp)) (xwQ g n a b k h) (s:=(q,i,l,j,o,m,c,d,e,f)) (xaf r)
def xhO:Env:=EKP1.fn 71 5 (lsOf []) (lpsOf [(7,xlQ)])
theorem xvz:OrcOk Tryz.prog (ITryz.at 5) xhO:=xue.fn
theorem xsh:LoOk Tryz.prog (ITryz.at xhO.pin) xhO (loopAt Tryz.f68 0):=xa7 (ls:=[loopAt Tryz.f68 1]) (by kernel_rfl) (lkC xoS lkN)
def xbp (a:Nat):Nat:=0+(i64.wrap ((↑a:Int) - 1)).toNat
def xeg (n b:Int) (c d:Nat) (a:LA):Int:=if i64.wrap (b - n)<((a.getD (xbp c) .top).cells.getD 1 .top).toInt then i64.wrap (b - n) else ((a.getD (xbp c) .top).cells.getD 1 .top).toInt
def xiL (j n d:Int) (c g h i a:Nat) (b:LA) (e:Nat) (f:LA):=Iter (xcc j n g (xbp c) (xeg n d c a b) (xeg n d c a b)) (0,d,c,g,h,i,a,List.take c b,e,f)
def xgJ (j n e:Int) (f g h i a:Nat) (b:LA) (c:Nat) (d:LA):=(xiL j n e f g h i a b c d).getD (0,0,0,0,0,[],0,[],0)
def xiK (j n e:Int) (f g h i a:Nat) (b:LA) (c:Nat) (d:LA):=(xgJ j n e f g h i a b c d).snd
def xfL (j n e:Int) (f g h i a:Nat) (b:LA) (c:Nat) (d:LA):=(xiK j n e f g h i a b c d).fst
def xiJ (j n e:Int) (f g h i a:Nat) (b:LA) (c:Nat) (d:LA):=(xiK j n e f g h i a b c d).snd
def xfM (j n e:Int) (f g h i a:Nat) (b:LA) (c:Nat) (d:LA):=(xiJ j n e f g h i a b c d).fst
def xgL (j n e:Int) (f g h i a:Nat) (b:LA) (c:Nat) (d:LA):=(xiJ j n e f g h i a b c d).snd
def xfK (j n e:Int) (f g h i a:Nat) (b:LA) (c:Nat) (d:LA):=i64.wrap ((↑(xfM j n e f g h i a b c d):Int) - 1)
def xgE (j n e:Int) (f g h i a:Nat) (b:LA) (c:Nat) (d:LA):=(xgL j n e f g h i a b c d).snd
def xiN (j n e:Int) (f g h i a:Nat) (b:LA) (c:Nat) (d:LA):=(xgE j n e f g h i a b c d).snd
def xhj (j n e:Int) (f g h i a:Nat) (b:LA) (c:Nat) (d:LA):=(xiN j n e f g h i a b c d).fst
def xjl (j n e:Int) (f g h i a:Nat) (b:LA) (c:Nat) (d:LA):=(xiN j n e f g h i a b c d).snd
def xdS (j n f:Int) (g e h i a:Nat) (b:LA) (c:Nat) (d:LA):=(xjl j n f g e h i a b c d).fst==e
def xjj (j n f:Int) (e g h i a:Nat) (b:LA) (c:Nat) (d:LA):=decide (xbp e<(xhj j n f e g h i a b c d).length)
def xfS (j n f:Int) (e g h i a:Nat) (b:LA) (c:Nat) (d:LA):=((xhj j n f e g h i a b c d).getD (xbp e) .top).cells
def xfT (j n e:Int) (f g h i a:Nat) (b:LA) (c:Nat) (d:LA):=(xjl j n e f g h i a b c d).snd
def xeK (j n f:Int) (e g h i a:Nat) (b:LA) (c:Nat) (d:LA):=(xhj j n f e g h i a b c d).set (xbp e) (AV.agg (List.take 1 (xfS j n f e g h i a b c d)++[AV.int .i64 (i64.wrap (((xfS j n f e g h i a b c d).getD 1 .top).toInt - xeg n f e a b))]++List.drop 2 (xfS j n f e g h i a b c d)))
def xe4 {T:Type} (j n g:Int) (f e h i a:Nat) (b:LA) (c:Nat) (d:LA) (δ:T) (κl:(Int×Nat×Nat×Nat×Nat×Nat×LA×Nat×LA)→T) (κr:(Int×Nat×Nat×Nat×Nat×LA×Nat×LA×Nat)→T):T:=br (decide (g>n)) (br (a==e) (br (a==e&&(decide (0≤i64.wrap ((↑f:Int) - 1))&&decide (i64.wrap ((↑f:Int) - 1)<(↑f:Int)))) (br (a==e) (br (a==e) (br (a==e&&(decide (xbp f<b.length)&&hasSh1 (Sh.int .i64) ((b.getD (xbp f) .top).cells.getD 1 .top))) (br ((xiL j n g f e h i a b c d).isSome) (br (xdS j n g f e h i a b c d) (br (xdS j n g f e h i a b c d) (br (xdS j n g f e h i a b c d&&(xjj j n g f e h i a b c d&&hasSh1 (Sh.int .i64) ((xfS j n g f e h i a b c d).getD 1 .top))) (br (xdS j n g f e h i a b c d) (br (xdS j n g f e h i a b c d) (br (xdS j n g f e h i a b c d&&xjj j n g f e h i a b c d) (br (e==e) (br (e==e) (br (e==e&&(decide (xbp f<(xeK j n g f e h i a b c d).length)&&hasSh1 (Sh.int .i64) (((xeK j n g f e h i a b c d).getD (xbp f) .top).cells.getD 1 .top))) (br ((((xeK j n g f e h i a b c d).getD (xbp f) .top).cells.getD 1 .top).toInt==0) (br (e==xfL j n g f e h i a b c d) (br (e==xfL j n g f e h i a b c d&&(decide (0≤xfK j n g f e h i a b c d)&&decide (xfK j n g f e h i a b c d≤(↑(xfM j n g f e h i a b c d):Int))&&true)) (κl (i64.wrap ((xgJ j n g f e h i a b c d).fst - xeg n g f a b),(xfK j n g f e h i a b c d).toNat - 0,xfL j n g f e h i a b c d,(xgE j n g f e h i a b c d).fst,(xgL j n g f e h i a b c d).fst,e,List.take ((xfK j n g f e h i a b c d).toNat - 0) (xeK j n g f e h i a b c d),(xfT j n g f e h i a b c d).snd,(xfT j n g f e h i a b c d).fst)) δ) δ) (κl (i64.wrap ((xgJ j n g f e h i a b c d).fst - xeg n g f a b),xfM j n g f e h i a b c d,xfL j n g f e h i a b c d,(xgE j n g f e h i a b c d).fst,(xgL j n g f e h i a b c d).fst,e,List.take (xfM j n g f e h i a b c d) (xeK j n g f e h i a b c d),(xfT j n g f e h i a b c d).snd,(xfT j n g f e h i a b c d).fst))) δ) δ) δ) δ) δ) δ) δ) δ) δ) δ) δ) δ) δ) δ) δ) (κr (g,e,f,i,h,b,a,d,c))
def xbP (j n:Int):(Int×Nat×Nat×Nat×Nat×Nat×LA×Nat×LA)→Option ((Int×Nat×Nat×Nat×Nat×Nat×LA×Nat×LA)⊕(Int×Nat×Nat×Nat×Nat×LA×Nat×LA×Nat)):=fun (e,f,g,h,i,a,b,c,d)=>xe4 j n e f g h i a b c d none (fun s=>some (.inl s)) (fun p=>some (.inr p))
def xgz (j n:Int):(Int×Nat×Nat×Nat×Nat×Nat×LA×Nat×LA)→LA×List Box:=fun (e,f,g,h,i,a,b,c,d)=>([AV.int .i64 j,AV.int .i64 n,AV.own 0 0 0 0,AV.own 1 0 0 0,AV.own 2 0 0 0],[⟨0,1,3,[AV.int .i64 e],false,true⟩,⟨0,1,84,[AV.osl 3 g 0 f],false,false⟩,⟨0,1,53,[AV.osl 4 i 0 h],false,false⟩,⟨a,2,86,b,false,true⟩,⟨c,2,31,d,false,true⟩])
def xfp (a n:Int):(Int×Nat×Nat×Nat×Nat×LA×Nat×LA×Nat)→LR:=fun p=>(.leaf (.exit 0) [] [⟨0,1,3,[AV.int .i64 p.1],false,true⟩,⟨0,1,84,[AV.osl 3 p.2.1 0 p.2.2.1],false,false⟩,⟨0,1,53,[AV.osl 4 p.2.2.2.1 0 p.2.2.2.2.1],false,false⟩,⟨p.2.2.2.2.2.2.1,2,86,p.2.2.2.2.2.1,false,true⟩,⟨p.2.2.2.2.2.2.2.2,2,31,p.2.2.2.2.2.2.2.1,false,true⟩])
abbrev xw7 (a:LA) (H:List Box):=XR Tryz.prog xhO [0,1,2,3,4] [] [(3,0,0)] (loopAt Tryz.f68 0) a H
theorem xwS (a n:Int) (s:Int×Nat×Nat×Nat×Nat×Nat×LA×Nat×LA):Enc (encR (xgz a n) (xfp a n)) (xbP a n s) (xw7 (xgz a n s).1 (xgz a n s).2):=by
 obtain ⟨f,g,h,i,j,b,c,d,e⟩:=s
 refine eV (xe4 a n f g h i j b c d e none (fun s=>some (encR (xgz a n) (xfp a n) (.inl s))) (fun p=>some (encR (xgz a n) (xfp a n) (.inr p)))) (by kernel_rfl) ?_;unfold xbP xe4;repeat' first|exact eN|exact eS rfl|apply eB
def xpJ:Lp:=lpOf [0,1,2,3,4] [] [(3,0,0)] (pCons (pInt .i64) (pCons (pInt .i64) (pCons (pOwn 0 0 0 0) (pCons (pOwn 1 0 0 0) (pCons (pOwn 2 0 0 0) pNil))))) (pCons (pBox 0 1 3 false true (pCons (pInt .i64) pNil)) (pCons (pBox 0 1 84 false false (pCons (pOslV 3 0) pNil)) (pCons (pBox 0 1 53 false false (pCons (pOslV 4 0) pNil)) (pCons (pBoxV 2 86 false true pAny) (pCons (pBoxV 2 31 false true pAny) pNil))))) fun (e,(n,(_,(_,(_,_))))) ((f,_),(((g,h),_),(((i,j),_),((a,b),((c,d),_)))))=>((Iter (xbP e n) (f,h,g,j,i,a,b,c,d)).isSome,xfp e n ((Iter (xbP e n) (f,h,g,j,i,a,b,c,d)).getD (0,0,0,0,0,[],0,[],0)))
theorem xuF:LoopOk Tryz.prog (ITryz.at xhO.pin) xhO.nt (loopAt Tryz.f68 0) xpJ:=xbr fun l m q o=>by
 obtain ⟨e,⟨n,⟨_,⟨_,⟨_,_⟩⟩⟩⟩⟩:=l
 obtain ⟨⟨f,_⟩,⟨⟨⟨g,h⟩,_⟩,⟨⟨⟨i,j⟩,_⟩,⟨⟨a,b⟩,⟨⟨c,d⟩,_⟩⟩⟩⟩⟩:=m
 obtain ⟨k,rfl⟩:=Prod.mk.inj o
 exact xaG mxTryz (inv0Ok Tryz.prog _) rfl xvz xsh (xgz e n) (xfp e n) (fun p=>by simp only [xfp,LR.eval];first|(simp;done)|(repeat' split<;>simp)) (xwS e n) (s:=(f,h,g,j,i,a,b,c,d)) (xaf k)
def xjt:Env:=EKP1.fn 71 5 (lsOf []) (lpsOf [(7,xlQ),(3,xpJ)])
theorem xvs:OrcOk Tryz.prog (ITryz.at 5) xjt:=xue.fn
theorem xtB:LoOk Tryz.prog (ITryz.at xjt.pin) xjt (Tryz.f68.body.getD .skip):=xa7 (ls:=[loopAt Tryz.f68 0,loopAt Tryz.f68 1]) (by kernel_rfl) (lkC xuF (lkC xoS lkN))
def xkP (a n h:Int) (b c:Nat) (d e:LA):=Iter (xbP a n) (n,b+1,1,c,0,1,List.take (b+1) (d++[AV.agg [AV.int .i64 a,AV.int .i64 (i64.wrap (n - h))]]),0,e)
def xk6 (a n h:Int) (b c:Nat) (d e:LA):=Iter (xbP a n) (h,b,0,c,0,0,List.take b d,0,e)
def xkM (a n h:Int) (b c:Nat) (d e:LA):=(xkP a n h b c d e).getD (0,0,0,0,0,[],0,[],0)
def xkI (a n h:Int) (b c:Nat) (d e:LA):=(xk6 a n h b c d e).getD (0,0,0,0,0,[],0,[],0)
def xlD (a n h:Int) (b c:Nat) (d e:LA):=(xkM a n h b c d e).snd
def xkE (a n h:Int) (b c:Nat) (d e:LA):=(xkI a n h b c d e).snd
def xlO (a n h:Int) (b c:Nat) (d e:LA):=(xlD a n h b c d e).snd
def xkW (a n h:Int) (b c:Nat) (d e:LA):=(xkE a n h b c d e).snd
def xlE (a n h:Int) (b c:Nat) (d e:LA):=(xlO a n h b c d e).snd
def xkG (a n h:Int) (b c:Nat) (d e:LA):=(xkW a n h b c d e).snd
def xlF (a n h:Int) (b c:Nat) (d e:LA):=(xlE a n h b c d e).snd
def xk0 (a n h:Int) (b c:Nat) (d e:LA):=(xkG a n h b c d e).snd
def xlK (a n h:Int) (b c:Nat) (d e:LA):=(xlF a n h b c d e).snd
def xlL (a n h:Int) (b c:Nat) (d e:LA):=(xk0 a n h b c d e).snd
def xlI (a n h:Int) (b c:Nat) (d e:LA):=(xlK a n h b c d e).snd
def xlH (a n h:Int) (b c:Nat) (d e:LA):=(xlL a n h b c d e).snd
def xlM (a n h:Int) (b c:Nat) (d e:LA):=(xlI a n h b c d e).snd
def xlJ (a n h:Int) (b c:Nat) (d e:LA):=(xlH a n h b c d e).snd
def xkw {T:Type} (a n h:Int) (b d:Nat) (c e:LA) (δ:T) (κ:Int×Nat×Nat×Nat×Nat×LA×Nat×LA×Nat→T):T:=br (decide (n>h)) (br (b==c.length&&(decide ((b+1)*16≤140737488355328)&&decide (b+1≤4611686018427387904))) (br ((xkP a n h b d c e).isSome) (κ ((xkM a n h b d c e).fst,(xlD a n h b d c e).fst,(xlO a n h b d c e).fst,(xlE a n h b d c e).fst,(xlF a n h b d c e).fst,(xlK a n h b d c e).fst,(xlI a n h b d c e).fst,(xlM a n h b d c e).fst,(xlM a n h b d c e).snd)) δ) δ) (br ((xk6 a n h b d c e).isSome) (κ ((xkI a n h b d c e).fst,(xkE a n h b d c e).fst,(xkW a n h b d c e).fst,(xkG a n h b d c e).fst,(xk0 a n h b d c e).fst,(xlL a n h b d c e).fst,(xlH a n h b d c e).fst,(xlJ a n h b d c e).fst,(xlJ a n h b d c e).snd)) δ)
def xkC (a n h:Int) (b c:Nat) (d e:LA):Option (Int×Nat×Nat×Nat×Nat×LA×Nat×LA×Nat):=xkw a n h b c d e none some
theorem xBg (a n h:Int) (b c:Nat) (d e:LA):Enc (fun (p:Int×Nat×Nat×Nat×Nat×LA×Nat×LA×Nat)=>(((AV.tuple [],([⟨0,1,3,[AV.int .i64 p.1],false,true⟩,⟨0,1,84,[AV.osl 3 p.2.1 0 p.2.2.1],false,false⟩,⟨0,1,53,[AV.osl 4 p.2.2.2.1 0 p.2.2.2.2.1],false,false⟩,⟨p.2.2.2.2.2.2.1,2,86,p.2.2.2.2.2.1,false,true⟩,⟨p.2.2.2.2.2.2.2.2,2,31,p.2.2.2.2.2.2.2.1,false,true⟩]:List Box))):(AV×List Box))) (xkC a n h b c d e) (XFM Tryz.prog xjt Tryz.f68 (Tryz.f68.body.getD .skip) [AV.int .i64 a,AV.int .i64 n,AV.own (0:Id) 0 0 0,AV.own (1:Id) 0 0 0,AV.own (2:Id) 0 0 0] [{ ver:=0,sz:=1,ty:=(3:TypeId),xs:=[AV.int .i64 h],frz:=false,pm:=true },{ ver:=0,sz:=1,ty:=(84:TypeId),xs:=[AV.osl (3:Id) 0 0 b],frz:=false,pm:=false },{ ver:=0,sz:=1,ty:=(53:TypeId),xs:=[AV.osl (4:Id) 0 0 c],frz:=false,pm:=false },{ ver:=0,sz:=2,ty:=(86:TypeId),xs:=d,frz:=false,pm:=true },{ ver:=0,sz:=2,ty:=(31:TypeId),xs:=e,frz:=false,pm:=true }]):=by
 refine eV (xkw a n h b c d e none (fun (p:Int×Nat×Nat×Nat×Nat×LA×Nat×LA×Nat)=>some (((AV.tuple [],([⟨0,1,3,[AV.int .i64 p.1],false,true⟩,⟨0,1,84,[AV.osl 3 p.2.1 0 p.2.2.1],false,false⟩,⟨0,1,53,[AV.osl 4 p.2.2.2.1 0 p.2.2.2.2.1],false,false⟩,⟨p.2.2.2.2.2.2.1,2,86,p.2.2.2.2.2.1,false,true⟩,⟨p.2.2.2.2.2.2.2.2,2,31,p.2.2.2.2.2.2.2.1,false,true⟩]:List Box))):(AV×List Box)))) (by kernel_rfl) ?_;unfold xkC xkw;repeat' first|exact eN|exact eS rfl|apply eB
end Go.Sim.M
end
noncomputable section
set_option maxRecDepth 100000
namespace Go.Sim
open Go.RowKit
theorem GoodM.aged {P:Program} {Inv:IV} {f:FuncId} {args:List AV} {H:List Box} {x0:AV} {v3 v4 k3 k4 t0 t1 t2 t3 t4 s3 s4:Nat} {xs3 xs4:List AV} (hlen:H.length=5) (hz3:∀ bx,H[3]?=some bx→bx.ver=0) (hz4:∀ bx,H[4]?=some bx→bx.ver=0)
  (p0:isC t0=false) (p1:isC t1=false) (p2:isC t2=false) (p3:isC t3=false) (p4:isC t4=false)
  (h:GoodM P Inv f args H (.tuple []) [⟨0,1,t0,[x0],false,true⟩,⟨0,1,t1,[.osl (.b 3) v3 0 k3],false,false⟩,⟨0,1,t2,[.osl (.b 4) v4 0 k4],false,false⟩,⟨v3,s3,t3,xs3,false,true⟩,⟨v4,s4,t4,xs4,false,true⟩]) :
  GoodM P Inv f args H (.tuple []) [⟨0,1,t0,[x0],false,true⟩,⟨0,1,t1,[.osl (.b 3) 1 0 k3],false,false⟩,⟨0,1,t2,[.osl (.b 4) 1 0 k4],false,false⟩,⟨1,s3,t3,xs3,false,true⟩,⟨1,s4,t4,xs4,false,true⟩]:=by
 refine ⟨h.1,fun w0 w A M vs hI hB hR hrc=>(h.2 w0 w A M vs hI hB hR hrc).mono ?_⟩
 rintro e w' ⟨u,A',M',rfl,h1,h2,h3,h4,h5⟩
 let M'':Id→Option MB:=fun id=>if id=.b 3∨id=.b 4 then (M' id).map fun m=>⟨m.b,1,m.sz,m.cap,m.ty⟩ else M' id
 have e3:∀ m,M' (.b 3)=some m→M'' (.b 3)=some ⟨m.b,1,m.sz,m.cap,m.ty⟩:=fun m hm=>by simp [M'',hm]
 have e4:∀ m,M' (.b 4)=some m→M'' (.b 4)=some ⟨m.b,1,m.sz,m.cap,m.ty⟩:=fun m hm=>by
  show (if (Id.b 4=.b 3∨Id.b 4=.b 4) then _ else _)=_
  rw [if_pos (.inr rfl),hm];rfl
 have eo:∀ id,id≠.b 3→id≠.b 4→M'' id=M' id:=fun id g1 g2=>by
  show (if _ then _ else _)=_
  rw [if_neg (fun e=>e.elim g1 g2)]
 have hsrc:∀ id m1,M'' id=some m1→∃ m0,M' id=some m0∧m1.b=m0.b∧m1.cap=m0.cap∧m1.sz=m0.sz∧m1.ty=m0.ty:=fun id m1 hm1=>by
  by_cases g3:id=.b 3
  · subst g3
    cases hm:M' (.b 3) with
    | none=>simp [M'',hm] at hm1
    | some m=>rw [e3 m hm] at hm1;simp only [Option.some.injEq] at hm1;subst hm1;exact ⟨m,rfl,rfl,rfl,rfl,rfl⟩
  · by_cases g4:id=.b 4
    · subst g4
      cases hm:M' (.b 4) with
      | none =>
       have:M'' (.b 4)=none:=by
        show (if (Id.b 4=.b 3∨Id.b 4=.b 4) then _ else _)=_
        rw [if_pos (.inr rfl),hm];rfl
       rw [this] at hm1;cases hm1
      | some m=>rw [e4 m hm] at hm1;simp only [Option.some.injEq] at hm1;subst hm1;exact ⟨m,rfl,rfl,rfl,rfl,rfl⟩
    · rw [eo id g3 g4] at hm1
      exact ⟨m1,hm1,rfl,rfl,rfl,rfl⟩
 have hosl:∀ (n v k:Nat) (c:Value) (m:MB),M' (.b n)=some m→M'' (.b n)=some ⟨m.b,1,m.sz,m.cap,m.ty⟩→v=m.ver→Rel w' A' M' c (.osl (.b n) v 0 k)→Rel w' A' M'' c (.osl (.b n) 1 0 k):=fun n v k c m hm hm'' hv hr=>by
  obtain ⟨m0,g1,g2,g3,g4⟩:=Rel.osl_inv hr
  rw [hm] at g1
  simp only [Option.some.injEq] at g1
  subst g1
  exact .osl c (.b n) 1 0 k _ hm'' (Nat.le_refl _) g3 fun _=>g4 hv
 have hbox:∀ (n:Nat) (bx:Box) (m:MB),[⟨0,1,t0,[x0],false,true⟩,⟨0,1,t1,[.osl (.b 3) v3 0 k3],false,false⟩,⟨0,1,t2,[.osl (.b 4) v4 0 k4],false,false⟩,⟨v3,s3,t3,xs3,false,true⟩,⟨v4,s4,t4,xs4,false,true⟩][n]?=some bx→M' (.b n)=some m→BoxAt w' A' M' w0.heap.size (.b n) m bx:=fun n bx m hn hm=>by
  obtain ⟨bx',g1,g2⟩:=h4.box _ m hm
  rw [xeP,hn] at g1
  simp only [Option.some.injEq] at g1
  subst g1
  exact g2
 have hpure:∀ (id:Id) (bx:Box) (m:MB) (v:Nat),isC bx.ty=false→bx.pm=true→BoxAt w' A' M' w0.heap.size id m bx→BoxAt w' A' M'' w0.heap.size id ⟨m.b,v,m.sz,m.cap,m.ty⟩ ⟨v,bx.sz,bx.ty,bx.xs,bx.frz,bx.pm⟩:=fun id bx m v hpl hp g=>by
  have hnm:isMapT m.ty=false:=g.nomap (xbX hpl)
  refine ⟨rfl,g.sz,g.ty,g.capm,g.fits,g.ok,g.low,g.lt,fun h0=>?_,g.guard⟩
  obtain ⟨c,c1,c2,c3⟩:=g.cells h0
  refine ⟨c,.of hnm (c1.plain hnm),c2,fun i j hi hj=>?_⟩
  have:=c3 i j hi hj
  rw [xa2 hpl,xcl hpl,hp] at this
  rw [xa2 hpl,xcl (bx:=⟨v,bx.sz,bx.ty,bx.xs,bx.frz,bx.pm⟩) hpl]
  show Rel w' A' (MP M'' bx.pm) _ _
  rw [hp]
  exact this
 have hvar:∀ (n n2 v k t:Nat) (m m2:MB),isC t=false→n≠3→n≠4→BoxAt w' A' M' w0.heap.size (.b n) m ⟨0,1,t,[.osl (.b n2) v 0 k],false,false⟩→M' (.b n2)=some m2→M'' (.b n2)=some ⟨m2.b,1,m2.sz,m2.cap,m2.ty⟩→v=m2.ver →
   BoxAt w' A' M'' w0.heap.size (.b n) m ⟨0,1,t,[.osl (.b n2) 1 0 k],false,false⟩:=fun n n2 v k t m m2 hpl _ _ g hm2 hm2'' hv=>by
  have hnm:isMapT m.ty=false:=g.nomap (xbX hpl)
  have hsz:m.sz=1:=g.sz.symm
  refine ⟨g.ver,g.sz,g.ty,g.capm,g.fits,fun y hy=>?_,g.low,g.lt,fun h0=>?_,g.guard⟩
  · simp only [List.mem_singleton] at hy
    subst hy
    rw [hsz];rfl
  · obtain ⟨c,c1,c2,c3⟩:=g.cells h0
    refine ⟨c,.of hnm (c1.plain hnm),c2,fun i j hi hj=>?_⟩
    have hi0:i=0:=by simpa using hi
    have hj0:j=0:=by omega
    subst hi0 hj0
    have:=c3 0 0 (by simp) hj
    rw [xa2 hpl,xcl hpl] at this
    rw [xa2 hpl,xcl (bx:=⟨0,1,t,[.osl (.b n2) 1 0 k],false,false⟩) hpl]
    exact hosl n2 v k _ m2 hm2 hm2'' hv this
 have hm3:∀ m,M (.b 3)=some m→m.ver=0:=fun m hm=>by
  obtain ⟨bx,g1,g2⟩:=hR.box _ m hm
  rw [←g2.ver]
  exact hz3 bx g1
 have hm4:∀ m,M (.b 4)=some m→m.ver=0:=fun m hm=>by
  obtain ⟨bx,g1,g2⟩:=hR.box _ m hm
  rw [←g2.ver]
  exact hz4 bx g1
 have hver3:∀ m,M' (.b 3)=some m→v3=m.ver:=fun m hm=>(hbox 3 _ m rfl hm).ver
 have hver4:∀ m,M' (.b 4)=some m→v4=m.ver:=fun m hm=>(hbox 4 _ m rfl hm).ver
 have hrow:∀ n i j m,M' (.r n i j)=some m→BoxAt w' A' M' w0.heap.size (.r n i j) m tombB∧n<5:=fun n i j m hm=>by
  obtain ⟨bx,g1,g2⟩:=h4.box _ m hm
  obtain ⟨b0,q1,_⟩:=xom g1
  have hn:n<5:=by
   have:=xfE q1
   simpa using this
  have hp:isC b0.ty=false:=by
   match n,hn with
   | 0,_=>simp only [List.getElem?_cons_zero,Option.some.injEq] at q1;subst q1;exact p0
   | 1,_=>simp only [List.getElem?_cons_zero,List.getElem?_cons_succ,Option.some.injEq] at q1;subst q1;exact p1
   | 2,_=>simp only [List.getElem?_cons_zero,List.getElem?_cons_succ,Option.some.injEq] at q1;subst q1;exact p2
   | 3,_=>simp only [List.getElem?_cons_zero,List.getElem?_cons_succ,Option.some.injEq] at q1;subst q1;exact p3
   | 4,_=>simp only [List.getElem?_cons_zero,List.getElem?_cons_succ,Option.some.injEq] at q1;subst q1;exact p4
  rw [xeR q1 hp] at g1
  simp only [Option.some.injEq] at g1
  subst g1
  exact ⟨g2,hn⟩
 have hR':HR w' A' M'' w0.heap.size [⟨0,1,t0,[x0],false,true⟩,⟨0,1,t1,[.osl (.b 3) 1 0 k3],false,false⟩,⟨0,1,t2,[.osl (.b 4) 1 0 k4],false,false⟩,⟨1,s3,t3,xs3,false,true⟩,⟨1,s4,t4,xs4,false,true⟩]:=by
  refine ⟨fun id m1 hm1=>?_,fun id id' m1 m2 k1 k2 c1 c2 he=>?_,h4.lt⟩
  · obtain ⟨m0,g1,g2,g3,g4,g5⟩:=hsrc id m1 hm1
    cases id with
    | r n i j =>
     rw [eo (.r n i j) (fun e=>by cases e) (fun e=>by cases e),g1] at hm1
     simp only [Option.some.injEq] at hm1
     subst hm1
     obtain ⟨q1,q2⟩:=hrow n i j _ g1
     refine ⟨tombB,?_,?_⟩
     · match n,q2 with
       | 0,_=>exact xeR rfl p0
       | 1,_=>exact xeR rfl p1
       | 2,_=>exact xeR rfl p2
       | 3,_=>exact xeR rfl p3
       | 4,_=>exact xeR rfl p4
     · have hv:tombB.ver=m0.ver:=q1.ver
       have:=hpure (.r n i j) tombB m0 m0.ver rfl rfl q1
       exact ⟨q1.ver,this.sz,this.ty,this.capm,this.fits,this.ok,this.low,this.lt,this.cells,this.guard⟩
    | b n =>
     have hn:n<5:=by
      obtain ⟨bx,q1,_⟩:=h4.box _ m0 g1
      have:=xfE q1
      simpa using this
     match n,hn with
     | 0,_ =>
      rw [eo (.b 0) (fun e=>by cases e) (fun e=>by cases e),g1] at hm1
      simp only [Option.some.injEq] at hm1
      subst hm1
      have q:=hbox 0 _ m0 rfl g1
      have:=hpure (.b 0) _ m0 m0.ver p0 rfl q
      exact ⟨⟨0,1,t0,[x0],false,true⟩,rfl,q.ver,this.sz,this.ty,this.capm,this.fits,this.ok,this.low,this.lt,this.cells,this.guard⟩
     | 1,_ =>
      rw [eo (.b 1) (fun e=>by cases e) (fun e=>by cases e),g1] at hm1
      simp only [Option.some.injEq] at hm1
      subst hm1
      have q:=hbox 1 _ m0 rfl g1
      have hc:0<m0.cap:=Nat.lt_of_lt_of_le Nat.zero_lt_one q.fits
      obtain ⟨c,c1,c2,c3⟩:=q.cells hc
      have hr:=c3 0 0 (by simp) (by rw [←q.sz];exact Nat.zero_lt_one)
      rw [xa2 p1,xcl (bx:=⟨0,1,t1,[.osl (.b 3) v3 0 k3],false,false⟩) p1] at hr
      have hr:Rel w' A' M' _ (.osl (.b 3) v3 0 k3):=hr
      obtain ⟨m3,a1,_⟩:=Rel.osl_inv hr
      exact ⟨_,rfl,hvar 1 3 v3 k3 t1 m0 m3 p1 (by decide) (by decide) q a1 (e3 m3 a1) (hver3 m3 a1)⟩
     | 2,_ =>
      rw [eo (.b 2) (fun e=>by cases e) (fun e=>by cases e),g1] at hm1
      simp only [Option.some.injEq] at hm1
      subst hm1
      have q:=hbox 2 _ m0 rfl g1
      have hc:0<m0.cap:=Nat.lt_of_lt_of_le Nat.zero_lt_one q.fits
      obtain ⟨c,c1,c2,c3⟩:=q.cells hc
      have hr:=c3 0 0 (by simp) (by rw [←q.sz];exact Nat.zero_lt_one)
      rw [xa2 p2,xcl (bx:=⟨0,1,t2,[.osl (.b 4) v4 0 k4],false,false⟩) p2] at hr
      have hr:Rel w' A' M' _ (.osl (.b 4) v4 0 k4):=hr
      obtain ⟨m4,a1,_⟩:=Rel.osl_inv hr
      exact ⟨_,rfl,hvar 2 4 v4 k4 t2 m0 m4 p2 (by decide) (by decide) q a1 (e4 m4 a1) (hver4 m4 a1)⟩
     | 3,_ =>
      rw [e3 m0 g1] at hm1
      simp only [Option.some.injEq] at hm1
      subst hm1
      exact ⟨_,rfl,hpure (.b 3) _ m0 1 p3 rfl (hbox 3 _ m0 rfl g1)⟩
     | 4,_ =>
      rw [e4 m0 g1] at hm1
      simp only [Option.some.injEq] at hm1
      subst hm1
      exact ⟨_,rfl,hpure (.b 4) _ m0 1 p4 rfl (hbox 4 _ m0 rfl g1)⟩
  · obtain ⟨n1,a1,a2,a3,_⟩:=hsrc id m1 k1
    obtain ⟨n2,b1,b2,b3,_⟩:=hsrc id' m2 k2
    exact h4.inj id id' n1 n2 a1 b1 (by omega) (by omega) (by rw [←a2,←b2,he])
 refine ⟨u,A',M'',rfl,h1,h2,⟨h3.size,h3.keep,h3.less,h3.more,fun id m hid hm=>?_,fun id m1 hm1 h0=>?_⟩,hR',?_⟩
 · obtain ⟨m',g1,g2⟩:=h3.ids id m hid hm
   by_cases q3:id=.b 3
   · subst q3
     exact ⟨_,e3 m' g1,.inr (by have:m.ver=0:=hm3 m hm;show m.ver<1;omega)⟩
   · by_cases q4:id=.b 4
     · subst q4
       exact ⟨_,e4 m' g1,.inr (by have:m.ver=0:=hm4 m hm;show m.ver<1;omega)⟩
     · exact ⟨m',by rw [eo id q3 q4];exact g1,g2⟩
 · obtain ⟨m0,g1,g2,g3,_⟩:=hsrc id m1 hm1
   rw [g2]
   exact h3.src id m0 g1 (by omega)
 · obtain ⟨vs',rfl,q1,_⟩:=h5.tuple_inv
   exact .tuple vs' [] q1 (by simp)
namespace M
open Go.Proofs
noncomputable def set2 (at0 n h:Int) (ns no:Nat) (sx ox:List AV):Option (Int×Nat×Nat×List AV×List AV):=(xkC at0 n h ns no sx ox).bind fun p =>
 br (Nat.beq p.2.1 p.2.2.2.2.2.2.1&&Nat.beq p.2.2.2.1 p.2.2.2.2.2.2.2.2) (some (p.1,p.2.2.1,p.2.2.2.2.1,p.2.2.2.2.2.1,p.2.2.2.2.2.2.2.1)) none
noncomputable def xE8:List AV→List Box→Option (Bool×AV×List Box):=omOf (sCons (sEq (pInt IntKind.i64)) (sCons (sEq (pInt IntKind.i64)) (sCons (sEq (pOwn 0 0 0 0)) (sCons (sEq (pOwn 1 0 0 0)) (sCons (sEq (pOwn 2 0 0 0)) sNil)))))
 (pCons (pBox 0 1 3 false true (pCons (pInt IntKind.i64) pNil)) (pCons (pBox 0 1 84 false false (pCons (pOsl 3 0 0) pNil)) (pCons (pBox 0 1 53 false false (pCons (pOsl 4 0 0) pNil)) (pCons (pBox 0 2 86 false true pAny) (pCons (pBox 0 2 31 false true pAny) pNil)))))
 fun (at0,(n,(_,(_,(_,_))))) ((h,_),((ns,_),((no,_),(sx,(ox,_)))))=>((set2 at0 n h ns no sx ox).isSome,(.tuple [],[⟨0,1,3,[.int .i64 ((set2 at0 n h ns no sx ox).getD (0,0,0,[],[])).1],false,true⟩,⟨0,1,84,[.osl (.b 3) 1 0 ((set2 at0 n h ns no sx ox).getD (0,0,0,[],[])).2.1],false,false⟩,⟨0,1,53,[.osl (.b 4) 1 0 ((set2 at0 n h ns no sx ox).getD (0,0,0,[],[])).2.2.1],false,false⟩,⟨1,2,86,((set2 at0 n h ns no sx ox).getD (0,0,0,[],[])).2.2.2.1,false,true⟩,⟨1,2,31,((set2 at0 n h ns no sx ox).getD (0,0,0,[],[])).2.2.2.2,false,true⟩]))
theorem xJl:OmOk Tryz.prog ITryz 68 xE8:=xfX fun vv bb rr hh' hh=>by
 obtain ⟨at0,⟨n,⟨_,⟨_,⟨_,_⟩⟩⟩⟩⟩:=vv
 obtain ⟨⟨h,_⟩,⟨⟨ns,_⟩,⟨⟨no,_⟩,⟨sx,⟨ox,_⟩⟩⟩⟩⟩:=bb
 obtain ⟨hh1,hh2⟩:=Prod.mk.inj hh
 cases hs:xkC at0 n h ns no sx ox with
 | none=>rw [show set2 at0 n h ns no sx ox=none by unfold set2;rw [hs];rfl] at hh1;simp at hh1
 | some p =>
  have hs2:set2 at0 n h ns no sx ox=br (Nat.beq p.2.1 p.2.2.2.2.2.2.1&&Nat.beq p.2.2.2.1 p.2.2.2.2.2.2.2.2) (some (p.1,p.2.2.1,p.2.2.2.2.1,p.2.2.2.2.2.1,p.2.2.2.2.2.2.2.1)) none:=by unfold set2;rw [hs];rfl
  cases ht:Nat.beq p.2.1 p.2.2.2.2.2.2.1&&Nat.beq p.2.2.2.1 p.2.2.2.2.2.2.2.2 with
  | false=>rw [hs2,ht] at hh1;simp [br] at hh1
  | true =>
   rw [ht] at hs2
   have hs3:set2 at0 n h ns no sx ox=some (p.1,p.2.2.1,p.2.2.2.2.1,p.2.2.2.2.2.1,p.2.2.2.2.2.2.2.1):=hs2
   rw [hs3] at hh2
   simp only [Option.getD_some] at hh2
   simp only [Bool.and_eq_true] at ht
   have e1:=Nat.eq_of_beq_eq_true ht.1
   have e2:=Nat.eq_of_beq_eq_true ht.2
   have hx:=xBg at0 n h ns no sx ox p hs
   have hg:GoodM Tryz.prog ITryz 68 _ _ _ _:=xdM (p:=xjt.pin) (xek mxTryz (inv0Ok Tryz.prog _) rfl xvs rfl Tryz.func68 rfl (by kernel_rfl) xtB hx)
   rw [←e1,←e2] at hg
   have hg2:=GoodM.aged rfl (fun bx hb=>by simp only [List.getElem?_cons_zero,List.getElem?_cons_succ,Option.some.injEq] at hb;subst hb;rfl) (fun bx hb=>by simp only [List.getElem?_cons_zero,List.getElem?_cons_succ,Option.some.injEq] at hb;subst hb;rfl) rfl rfl rfl rfl rfl hg
   obtain ⟨rfl,rfl⟩:=Prod.mk.inj hh2
   exact hg2
noncomputable def ESet:Env:=EKP1.withM 68 xE8
theorem xy5:OrcOk Tryz.prog ITryz ESet:=xue.withM xJl
end M
end Go.Sim
end
noncomputable section
set_option maxRecDepth 100000
namespace Go.Sim.M
open Go.IntKind (i64 u64 u8)
open Go.RowKit Go.Proofs
def xgl:Env:=ESet.fn 30 0 (lsOf []) (lpsOf [])
theorem xta:OrcOk Tryz.prog (ITryz.at 0) xgl:=xy5.fn
theorem xqL:LoOk Tryz.prog (ITryz.at xgl.pin) xgl (loopAt Tryz.f44 0):=xaF (by kernel_rfl)
def xkb (a:LA) (h b:Int) (f c:Nat) (g:Int) (d e:LA):Int:=if 0>((a.getD b.toNat .top).cells.getD 1 .top).toInt then 0 else ((a.getD b.toNat .top).cells.getD 1 .top).toInt
def xkA (f:LA) (h g:Int) (d a:Nat) (e:Int) (b c:LA):=set2 ((f.getD g.toNat .top).cells.getD 0 .top).toInt (if 1048576<xkb f h g d a e b c then 1048576 else xkb f h g d a e b c) e a d c b
def xjW (f:LA) (g h:Int) (d a:Nat) (e:Int) (b c:LA):=(xkA f g h d a e b c).getD (0,0,0,[],[])
def xki (f:LA) (g h:Int) (d a:Nat) (e:Int) (b c:LA):=(xjW f g h d a e b c).snd
def xkt (f:LA) (g h:Int) (d a:Nat) (e:Int) (b c:LA):=(xki f g h d a e b c).fst
def xkp (f:LA) (g h:Int) (d a:Nat) (e:Int) (b c:LA):=(xki f g h d a e b c).snd
def xj3 (f:LA) (g h:Int) (d a:Nat) (e:Int) (b c:LA):=(xkp f g h d a e b c).snd
def xgG {T:Type} (f:LA) (h d:Int) (e a:Nat) (g:Int) (b c:LA) (δ:T) (κl:(Int×Nat×Nat×Int×LA×LA)→T) (κr:(Nat×Int×Nat×LA×LA)→T):T:=br (decide (d<h)) (br (decide (0≤d)&&decide (d<f.length)) (br (decide (d.toNat<f.length)&&((f.getD d.toNat .top).cells.length==2&&hasShs [Sh.int .i64,Sh.int .i64] (f.getD d.toNat .top).cells 0)) (br ((xkA f h d e a g b c).isSome) (κl (i64.wrap (d+1),(xkp f h d e a g b c).fst,xkt f h d e a g b c,(xjW f h d e a g b c).fst,(xj3 f h d e a g b c).snd,List.take (xkt f h d e a g b c) (xj3 f h d e a g b c).fst)) δ) δ) δ) (κr (e,g,a,b,c))
def xb9 (f:LA) (g:Int):(Int×Nat×Nat×Int×LA×LA)→Option ((Int×Nat×Nat×Int×LA×LA)⊕(Nat×Int×Nat×LA×LA)):=fun (h,d,a,e,b,c)=>xgG f g h d a e b c none (fun s=>some (.inl s)) (fun p=>some (.inr p))
def xfq (f:LA) (g:Int):(Int×Nat×Nat×Int×LA×LA)→LA×List Box:=fun (h,d,a,e,b,c)=>([AV.own 0 0 0 0,AV.own 1 0 0 0,AV.func 68 [AV.own 2 0 0 0,AV.own 1 0 0 0,AV.own 0 0 0 0],AV.list 2 f,AV.int .i64 g,AV.int .i64 h],[⟨0,1,53,[AV.osl 3 0 0 d],false,false⟩,⟨0,1,84,[AV.osl 4 0 0 a],false,false⟩,⟨0,1,3,[AV.int .i64 e],false,true⟩,⟨0,2,31,b,false,true⟩,⟨0,2,86,c,false,true⟩])
def xez (a:LA) (b:Int):(Nat×Int×Nat×LA×LA)→LR:=fun p=>(.leaf (.exit 0) [AV.own 0 0 0 0,AV.func 68 [AV.own 1 0 0 0,AV.own 2 0 0 0,AV.own 0 0 0 0]] [⟨0,1,53,[AV.osl 3 0 0 p.1],false,false⟩,⟨0,1,3,[AV.int .i64 p.2.1],false,true⟩,⟨0,1,84,[AV.osl 4 0 0 p.2.2.1],false,false⟩,⟨0,2,31,p.2.2.2.1,false,true⟩,⟨0,2,86,p.2.2.2.2,false,true⟩])
abbrev xuo (a:LA) (H:List Box):=XR Tryz.prog xgl [3,4,6,10,11,12] [3,6] [(3,2,31),(4,2,86),(4,0,0)] (loopAt Tryz.f44 0) a H
theorem xul (a:LA) (b:Int) (s:Int×Nat×Nat×Int×LA×LA):Enc (encR (xfq a b) (xez a b)) (xb9 a b s) (xuo (xfq a b s).1 (xfq a b s).2):=by
 obtain ⟨h,f,c,g,d,e⟩:=s
 refine eV (xgG a b h f c g d e none (fun s=>some (encR (xfq a b) (xez a b) (.inl s))) (fun p=>some (encR (xfq a b) (xez a b) (.inr p)))) (by kernel_rfl) ?_;unfold xb9 xgG;repeat' first|exact eN|exact eS rfl|apply eB
def xov:Lp:=lpOf [3,4,6,10,11,12] [3,6] [(3,2,31),(4,2,86),(4,0,0)] (pCons (pOwn 0 0 0 0) (pCons (pOwn 1 0 0 0) (pCons (pFunc 68 (pCons (pOwn 2 0 0 0) (pCons (pOwn 1 0 0 0) (pCons (pOwn 0 0 0 0) pNil)))) (pCons (pList 2 pAny) (pCons (pInt .i64) (pCons (pInt .i64) pNil)))))) (pCons (pBox 0 1 53 false false (pCons (pOsl 3 0 0) pNil)) (pCons (pBox 0 1 84 false false (pCons (pOsl 4 0 0) pNil)) (pCons (pBox 0 1 3 false true (pCons (pInt .i64) pNil)) (pCons (pBox 0 2 31 false true pAny) (pCons (pBox 0 2 86 false true pAny) pNil))))) fun (_,(_,((_,(_,(_,_))),(e,(f,(h,_)))))) ((d,_),((a,_),((g,_),(b,(c,_)))))=>((Iter (xb9 e f) (h,d,a,g,b,c)).isSome,xez e f ((Iter (xb9 e f) (h,d,a,g,b,c)).getD (0,0,0,[],[])))
theorem xsV:LoopOk Tryz.prog (ITryz.at xgl.pin) xgl.nt (loopAt Tryz.f44 0) xov:=xbr fun j k m l=>by
 obtain ⟨_,⟨_,⟨⟨_,⟨_,⟨_,_⟩⟩⟩,⟨d,⟨e,⟨h,_⟩⟩⟩⟩⟩⟩:=j
 obtain ⟨⟨f,_⟩,⟨⟨a,_⟩,⟨⟨g,_⟩,⟨b,⟨c,_⟩⟩⟩⟩⟩:=k
 obtain ⟨i,rfl⟩:=Prod.mk.inj l
 exact xaG mxTryz (inv0Ok Tryz.prog _) rfl xta xqL (xfq d e) (xez d e) (fun p=>by simp only [xez,LR.eval];first|(simp;done)|(repeat' split<;>simp)) (xul d e) (s:=(h,f,a,g,b,c)) (xaf i)
def xhV:Env:=ESet.fn 30 0 (lsOf []) (lpsOf [(6,xov)])
theorem xtw:OrcOk Tryz.prog (ITryz.at 0) xhV:=xy5.fn
theorem xrU:LoOk Tryz.prog (ITryz.at xhV.pin) xhV (Tryz.f44.body.getD .skip):=xa7 (ls:=[loopAt Tryz.f44 0]) (by kernel_rfl) (lkC xsV lkN)
def xnc (l:LA):=Iter (xb9 l (↑l.length:Int)) (0,0,0,0,[],[])
def xmN (l:LA):=(xnc l).getD (0,0,0,[],[])
def xmR (l:LA):=(xmN l).snd
def xmF (l:LA):=(xmR l).snd
def xmW (l:LA):=(xmF l).snd
def xna (l:LA):=set2 1099511627776 0 (xmR l).fst (xmF l).fst (xmN l).fst (xmW l).snd (xmW l).fst
def xm1 (l:LA):=((xna l).getD (0,0,0,[],[])).snd.snd
def xh6 (l:LA):=(xm1 l).fst
def xhU (l:LA):=(xm1 l).snd.snd
def xkF {T:Type} (l:LA) (δ:T) (κ:LA→T):T:=br ((xnc l).isSome) (br ((xna l).isSome) (br ((xh6 l).beq (xhU l).length&&(decide (xh6 l<4611686018427387904)&&(xhU l).all isP)) (br (decide (0+xh6 l≤(srtP (xhU l)).length)&&true) (κ (List.take (xh6 l) (List.drop 0 (srtP (xhU l))))) δ) δ) δ) δ
def xf8 (l:LA):Option (LA):=xkF l none some
theorem xy9 (l:LA):Enc (fun (p:LA)=>((AV.list 2 p):AV)) (xf8 l) (XF Tryz.prog xhV Tryz.f44 (Tryz.f44.body.getD .skip) [AV.list 2 l]):=by
 refine eV (xkF l none (fun (p:LA)=>some ((AV.list 2 p):AV))) (by kernel_rfl) ?_;unfold xf8 xkF;repeat' first|exact eN|exact eS rfl|apply eB
def xrE:LA→Option (Bool×AV):=ocOf (sCons (sList 2 pAny) sNil) fun (l,_)=>((xf8 l).isSome,(AV.list 2 ((xf8 l).getD [])))
theorem xy3:OcOk Tryz.prog ITryz 44 (xrE):=xbc fun c f e=>by
 obtain ⟨l,_⟩:=c
 obtain ⟨a,b⟩:=Prod.mk.inj e
 refine xaQ (p:=xhV.pin) (xa1 mxTryz (inv0Ok Tryz.prog _) rfl xtw Tryz.func44 rfl (by kernel_rfl) xrU ((xy9 _ _ (xaf (d:=[]) a)).trans ?_))
 exact congrArg some b
def xBc:Env:=ESet.with 44 xrE
theorem xzJ:OrcOk Tryz.prog ITryz xBc:=xy5.with xy3
def xhm:Env:=xBc.fn 10 0 (lsOf []) (lpsOf [])
theorem xsX:OrcOk Tryz.prog (ITryz.at 0) xhm:=xzJ.fn
theorem xrk:LoOk Tryz.prog (ITryz.at xhm.pin) xhm (Tryz.f43.body.getD .skip):=xaF (by kernel_rfl)
def xjS {T:Type} (a:LA) (δ:T) (κ:LA→T):T:=br ((↑a.length:Int)==1) (κ (a)) (br ((xcJ a).isSome) (br ((xf8 ((xcJ a).getD [])).isSome) (κ ((xf8 ((xcJ a).getD [])).getD [])) δ) δ)
def xde (a:LA):Option (LA):=xjS a none some
theorem xyj (a:LA):Enc (fun (p:LA)=>((AV.list 2 p):AV)) (xde a) (XF Tryz.prog xhm Tryz.f43 (Tryz.f43.body.getD .skip) [AV.list 2 a]):=by
 refine eV (xjS a none (fun (p:LA)=>some ((AV.list 2 p):AV))) (by kernel_rfl) ?_;unfold xde xjS;repeat' first|exact eN|exact eS rfl|apply eB
def xqc:LA→Option (Bool×AV):=ocOf (sCons (sList 2 pAny) sNil) fun (a,_)=>((xde a).isSome,(AV.list 2 ((xde a).getD [])))
theorem xwY:OcOk Tryz.prog ITryz 43 (xqc):=xbc fun c f e=>by
 obtain ⟨g,_⟩:=c
 obtain ⟨a,b⟩:=Prod.mk.inj e
 refine xaQ (p:=xhm.pin) (xa1 mxTryz (inv0Ok Tryz.prog _) rfl xsX Tryz.func43 rfl (by kernel_rfl) xrk ((xyj _ _ (xaf (d:=[]) a)).trans ?_))
 exact congrArg some b
def xFP:Env:=xBc.with 43 xqc
theorem xFl:OrcOk Tryz.prog ITryz xFP:=xzJ.with xwY
abbrev EKP3:Env:=xFP
theorem xuh:OrcOk Tryz.prog ITryz EKP3:=xFl
end Go.Sim.M
end
noncomputable section
set_option maxRecDepth 100000
namespace Go.Sim.M
open Go.IntKind (i64 u64 u8)
open Go.RowKit Go.Proofs
def xhM:Env:=EKP3.fn 49 0 (lsOf []) (lpsOf [])
theorem xvk:OrcOk Tryz.prog (ITryz.at 0) xhM:=xuh.fn
theorem xsg:LoOk Tryz.prog (ITryz.at xhM.pin) xhM (loopAt Tryz.f99 0):=xaF (by kernel_rfl)
def xil {T:Type} (b e:LA) (f:Int) (c:Nat) (a:Int) (d:LA) (δ:T) (κl:(Nat×Int×LA)→T) (κr:(Nat×LA)→T):T:=br (decide (a<f)) (br (decide (0≤a)&&decide (a<e.length)) (br (decide (a.toNat<e.length)&&((e.getD a.toNat .top).cells.length==2&&hasShs [Sh.int .i64,Sh.int .i64] (e.getD a.toNat .top).cells 0)) (br (xe1 ((e.getD a.toNat .top).cells.getD 0 .top).toInt ((e.getD a.toNat .top).cells.getD 1 .top).toInt) (br (c==d.length&&(decide ((c+2)*24≤140737488355328)&&decide (c+2≤4611686018427387904))) (κl (c+2,i64.wrap (a+1),d++[AV.agg [AV.int .i64 ((e.getD a.toNat .top).cells.getD 0 .top).toInt,AV.int .i64 1,AV.int .i64 0],AV.agg [AV.int .i64 ((e.getD a.toNat .top).cells.getD 1 .top).toInt,AV.int .i64 (-1),AV.int .i64 0]])) δ) (κl (c,i64.wrap (a+1),d))) δ) δ) (κr (c,d))
def xbM (b d:LA) (e:Int):(Nat×Int×LA)→Option ((Nat×Int×LA)⊕(Nat×LA)):=fun (c,f,a)=>xil b d e c f a none (fun s=>some (.inl s)) (fun p=>some (.inr p))
def xgj (b d:LA) (e:Int):(Nat×Int×LA)→LA×List Box:=fun (c,f,a)=>([AV.list 2 b,AV.osl 0 0 0 c,AV.list 2 d,AV.int .i64 e,AV.int .i64 f],[⟨0,3,117,a,false,true⟩])
def xfm (b a:LA) (c:Int):(Nat×LA)→LR:=fun p=>(.leaf (.exit 0) [AV.list 2 b,AV.osl 0 0 0 p.1] [⟨0,3,117,p.2,false,true⟩])
abbrev xwF (a:LA) (H:List Box):=XR Tryz.prog xhM [1,5,10,11,12] [1,5] [(5,3,117)] (loopAt Tryz.f99 0) a H
theorem xwe (b a:LA) (c:Int) (s:Nat×Int×LA):Enc (encR (xgj b a c) (xfm b a c)) (xbM b a c s) (xwF (xgj b a c s).1 (xgj b a c s).2):=by
 obtain ⟨e,f,d⟩:=s
 refine eV (xil b a c e f d none (fun s=>some (encR (xgj b a c) (xfm b a c) (.inl s))) (fun p=>some (encR (xgj b a c) (xfm b a c) (.inr p)))) (by kernel_rfl) ?_;unfold xbM xil;repeat' first|exact eN|exact eS rfl|apply eB
def xlZ:Lp:=lpOf [1,5,10,11,12] [1,5] [(5,3,117)] (pCons (pList 2 pAny) (pCons (pOsl 0 0 0) (pCons (pList 2 pAny) (pCons (pInt .i64) (pCons (pInt .i64) pNil))))) (pCons (pBox 0 3 117 false true pAny) pNil) fun (b,(c,(d,(e,(f,_))))) (a,_)=>((Iter (xbM b d e) (c,f,a)).isSome,xfm b d e ((Iter (xbM b d e) (c,f,a)).getD (0,[])))
theorem xun:LoopOk Tryz.prog (ITryz.at xhM.pin) xhM.nt (loopAt Tryz.f99 0) xlZ:=xbr fun h i k j=>by
 obtain ⟨b,⟨e,⟨a,⟨c,⟨f,_⟩⟩⟩⟩⟩:=h
 obtain ⟨d,_⟩:=i
 obtain ⟨g,rfl⟩:=Prod.mk.inj j
 exact xaG mxTryz (inv0Ok Tryz.prog _) rfl xvk xsg (xgj b a c) (xfm b a c) (fun p=>by simp only [xfm,LR.eval];first|(simp;done)|(repeat' split<;>simp)) (xwe b a c) (s:=(e,f,d)) (xaf g)
def xhL:Env:=EKP3.fn 49 0 (lsOf []) (lpsOf [(3,xlZ)])
theorem xvD:OrcOk Tryz.prog (ITryz.at 0) xhL:=xuh.fn
theorem xsi:LoOk Tryz.prog (ITryz.at xhL.pin) xhL (loopAt Tryz.f99 1):=xaF (by kernel_rfl)
def xhZ {T:Type} (d:LA) (e:Int) (b:Nat) (a:Int) (c:LA) (δ:T) (κl:(Nat×Int×LA)→T) (κr:(Nat×LA)→T):T:=br (decide (a<e)) (br (decide (0≤a)&&decide (a<d.length)) (br (decide (a.toNat<d.length)&&((d.getD a.toNat .top).cells.length==2&&hasShs [Sh.int .i64,Sh.int .i64] (d.getD a.toNat .top).cells 0)) (br (xe1 ((d.getD a.toNat .top).cells.getD 0 .top).toInt ((d.getD a.toNat .top).cells.getD 1 .top).toInt) (br (b==c.length&&(decide ((b+2)*24≤140737488355328)&&decide (b+2≤4611686018427387904))) (κl (b+2,i64.wrap (a+1),c++[AV.agg [AV.int .i64 ((d.getD a.toNat .top).cells.getD 0 .top).toInt,AV.int .i64 0,AV.int .i64 1],AV.agg [AV.int .i64 ((d.getD a.toNat .top).cells.getD 1 .top).toInt,AV.int .i64 0,AV.int .i64 (-1)]])) δ) (κl (b,i64.wrap (a+1),c))) δ) δ) (κr (b,c))
def xcH (c:LA) (d:Int):(Nat×Int×LA)→Option ((Nat×Int×LA)⊕(Nat×LA)):=fun (b,e,a)=>xhZ c d b e a none (fun s=>some (.inl s)) (fun p=>some (.inr p))
def xgt (c:LA) (d:Int):(Nat×Int×LA)→LA×List Box:=fun (b,e,a)=>([AV.osl 0 0 0 b,AV.list 2 c,AV.int .i64 d,AV.int .i64 e],[⟨0,3,117,a,false,true⟩])
def xfh (a:LA) (b:Int):(Nat×LA)→LR:=fun p=>(.leaf (.exit 2) [AV.osl 0 0 0 p.1] [⟨0,3,117,p.2,false,true⟩])
abbrev xvx (a:LA) (H:List Box):=XR Tryz.prog xhL [5,28,29,30] [5] [(5,3,117)] (loopAt Tryz.f99 1) a H
theorem xw4 (a:LA) (b:Int) (s:Nat×Int×LA):Enc (encR (xgt a b) (xfh a b)) (xcH a b s) (xvx (xgt a b s).1 (xgt a b s).2):=by
 obtain ⟨d,e,c⟩:=s
 refine eV (xhZ a b d e c none (fun s=>some (encR (xgt a b) (xfh a b) (.inl s))) (fun p=>some (encR (xgt a b) (xfh a b) (.inr p)))) (by kernel_rfl) ?_;unfold xcH xhZ;repeat' first|exact eN|exact eS rfl|apply eB
def xpg:Lp:=lpOf [5,28,29,30] [5] [(5,3,117)] (pCons (pOsl 0 0 0) (pCons (pList 2 pAny) (pCons (pInt .i64) (pCons (pInt .i64) pNil)))) (pCons (pBox 0 3 117 false true pAny) pNil) fun (b,(c,(d,(e,_)))) (a,_)=>((Iter (xcH c d) (b,e,a)).isSome,xfh c d ((Iter (xcH c d) (b,e,a)).getD (0,[])))
theorem xuL:LoopOk Tryz.prog (ITryz.at xhL.pin) xhL.nt (loopAt Tryz.f99 1) xpg:=xbr fun g h j i=>by
 obtain ⟨d,⟨a,⟨b,⟨e,_⟩⟩⟩⟩:=g
 obtain ⟨c,_⟩:=h
 obtain ⟨f,rfl⟩:=Prod.mk.inj i
 exact xaG mxTryz (inv0Ok Tryz.prog _) rfl xvD xsi (xgt a b) (xfh a b) (fun p=>by simp only [xfh,LR.eval];first|(simp;done)|(repeat' split<;>simp)) (xw4 a b) (s:=(d,e,c)) (xaf f)
def xjq:Env:=EKP3.fn 49 0 (lsOf []) (lpsOf [(3,xlZ),(9,xpg)])
theorem xvK:OrcOk Tryz.prog (ITryz.at 0) xjq:=xuh.fn
theorem xt2:LoOk Tryz.prog (ITryz.at xjq.pin) xjq (Tryz.f99.body.getD .skip):=xa7 (ls:=[loopAt Tryz.f99 0,loopAt Tryz.f99 1]) (by kernel_rfl) (lkC xun (lkC xuL lkN))
def xlG (a b:LA):=(Iter (xbM b a (↑a.length:Int)) (0,0,[])).getD (0,[])
def xlP (a b:LA):=Iter (xcH b (↑b.length:Int)) ((xlG a b).fst,0,(xlG a b).snd)
def xlN (a b:LA):=(xlP a b).getD (0,[])
def xhG (a b:LA):=(xlN a b).fst
def xhS (a b:LA):=(xlN a b).snd
def xmV {T:Type} (a b:LA) (δ:T) (κ:LA→T):T:=br ((Iter (xbM b a (↑a.length:Int)) (0,0,[])).isSome) (br ((xlP a b).isSome) (br ((xhG a b).beq (xhS a b).length&&(decide (xhG a b<4611686018427387904)&&(xhS a b).all isE)) (br (decide (0+xhG a b≤(srtE (xhS a b)).length)&&true) (κ (List.take (xhG a b) (List.drop 0 (srtE (xhS a b))))) δ) δ) δ) δ
def xfx (a b:LA):Option (LA):=xmV a b none some
theorem xBl (a b:LA):Enc (fun (p:LA)=>((AV.list 3 p):AV)) (xfx a b) (XF Tryz.prog xjq Tryz.f99 (Tryz.f99.body.getD .skip) [AV.list 2 a,AV.list 2 b]):=by
 refine eV (xmV a b none (fun (p:LA)=>some ((AV.list 3 p):AV))) (by kernel_rfl) ?_;unfold xfx xmV;repeat' first|exact eN|exact eS rfl|apply eB
def xtd:LA→Option (Bool×AV):=ocOf (sCons (sList 2 pAny) (sCons (sList 2 pAny) sNil)) fun (a,(b,_))=>((xfx a b).isSome,(AV.list 3 ((xfx a b).getD [])))
theorem xBp:OcOk Tryz.prog ITryz 99 (xtd):=xbc fun f h g=>by
 obtain ⟨a,⟨b,_⟩⟩:=f
 obtain ⟨c,e⟩:=Prod.mk.inj g
 refine xaQ (p:=xjq.pin) (xa1 mxTryz (inv0Ok Tryz.prog _) rfl xvK Tryz.func99 rfl (by kernel_rfl) xt2 ((xBl _ _ _ (xaf (d:=[]) c)).trans ?_))
 exact congrArg some e
def xBa:Env:=EKP3.with 99 xtd
theorem xzN:OrcOk Tryz.prog ITryz xBa:=xuh.with xBp
def xi1:Env:=xBa.fn 6 0 (lsOf []) (lpsOf [])
theorem xwb:OrcOk Tryz.prog (ITryz.at 0) xi1:=xzN.fn
theorem xuE:LoOk Tryz.prog (ITryz.at xi1.pin) xi1 (Tryz.f77.body.getD .skip):=xaF (by kernel_rfl)
def xjd (a b:Bool):Bool:=((a))
def xsD (a b:Bool):Bool:=true
def xux {T:Type} (a b:Bool) (δ:T) (κ:Bool→T):T:=κ (a)
theorem xCi (a b:Bool):Pre (xsD a b) (XF Tryz.prog xi1 Tryz.f77 (Tryz.f77.body.getD .skip) [AV.bool a,AV.bool b]) (AV.bool (xjd a b)):=by
 have h:XF Tryz.prog xi1 Tryz.f77 (Tryz.f77.body.getD .skip) [AV.bool a,AV.bool b]=xux a b none (fun (p:Bool)=>some ((AV.bool p):AV)):=by kernel_rfl
 rw [h];unfold xjd xsD xux;repeat' (first|exact Pre.none|exact Pre.tt rfl|exact Pre.some rfl|refine Pre.l ?_|refine Pre.r ?_|refine Pre.br (f:=fun (p:Bool)=>((AV.bool p):AV)) ?_ ?_|refine Pre.brt (f:=fun (p:Bool)=>((AV.bool p):AV)) ?_ ?_)
def xuQ:LA→Option (Bool×AV):=ocOf (sCons (sEq pBool) (sCons (sEq pBool) sNil)) fun (a,(b,_))=>(true,(AV.bool (xjd a b)))
theorem xCb:OcOk Tryz.prog ITryz 77 (xuQ):=xbc fun c f d=>by
 obtain ⟨a,⟨g,_⟩⟩:=c
 obtain ⟨e,b⟩:=Prod.mk.inj d
 refine xaQ (p:=xi1.pin) (xa1 mxTryz (inv0Ok Tryz.prog _) rfl xwb Tryz.func77 rfl (by kernel_rfl) xuE ((Pre.get (xCi _ _) rfl).trans ?_))
 exact congrArg some b
def xtq:Env:=xBa.with 77 xuQ
theorem xp3:OrcOk Tryz.prog ITryz xtq:=xzN.with xCb
def xgC:Env:=xtq.fn 92 0 (lsOf []) (lpsOf [])
theorem xto:OrcOk Tryz.prog (ITryz.at 0) xgC:=xp3.fn
theorem xqG:LoOk Tryz.prog (ITryz.at xgC.pin) xgC (loopAt Tryz.f76 1):=xaF (by kernel_rfl)
def xj7 (l:LA) (i:Int):=decide (0≤i)&&decide (i<l.length)
def xlj {T:Type} (l:LA) (e:Nat) (d b c i:Int) (a:LA) (δ:T) (κl:(Int×Int×Int×LA)→T) (κr:(Int×Int×Int×LA)→T):T:=br (decide (i<l.length)) (br (xj7 l i) (br (decide (i.toNat<l.length)&&hasSh1 (Sh.int .i64) ((l.getD i.toNat .top).cells.getD 0 .top)) (br (((l.getD i.toNat .top).cells.getD 0 .top).toInt==d) (br (xj7 l i) (br (decide (i.toNat<l.length)&&hasSh1 (Sh.int .i64) ((l.getD i.toNat .top).cells.getD 1 .top)) (br (xj7 l i) (br (decide (i.toNat<l.length)&&hasSh1 (Sh.int .i64) ((l.getD i.toNat .top).cells.getD 2 .top)) (κl (i64.wrap (b+((l.getD i.toNat .top).cells.getD 1 .top).toInt),i64.wrap (c+((l.getD i.toNat .top).cells.getD 2 .top).toInt),i64.wrap (i+1),a)) δ) δ) δ) δ) (κr (b,c,i,a))) δ) δ) (κr (b,c,i,a))
def xd0 (l:LA) (b:Nat) (c:Int):(Int×Int×Int×LA)→Option ((Int×Int×Int×LA)⊕(Int×Int×Int×LA)):=fun (d,e,i,a)=>xlj l b c d e i a none (fun s=>some (.inl s)) (fun p=>some (.inr p))
def xfi (l:LA) (b:Nat) (c:Int):(Int×Int×Int×LA)→LA×List Box:=fun (d,e,i,a)=>([AV.func 77 [],AV.list 3 l,AV.osl 0 0 0 b,AV.int .i64 d,AV.int .i64 e,AV.int .i64 i,AV.int .i64 c],[⟨0,2,31,a,false,true⟩])
def xet (l:LA) (a:Nat) (b:Int):(Int×Int×Int×LA)→LR:=fun p=>(.leaf (.exit 2) [AV.func 77 [],AV.list 3 l,AV.osl 0 0 0 a,AV.int .i64 p.1,AV.int .i64 p.2.1,AV.int .i64 p.2.2.1,AV.int .i64 b] [⟨0,2,31,p.2.2.2,false,true⟩])
abbrev xuM (a:LA) (H:List Box):=XR Tryz.prog xgC [2,7,8,9,10,11,12] [2,7,8,9,10,11,12] [(8,2,31)] (loopAt Tryz.f76 1) a H
theorem xup (l:LA) (a:Nat) (b:Int) (s:Int×Int×Int×LA):Enc (encR (xfi l a b) (xet l a b)) (xd0 l a b s) (xuM (xfi l a b s).1 (xfi l a b s).2):=by
 obtain ⟨d,e,i,c⟩:=s
 refine eV (xlj l a b d e i c none (fun s=>some (encR (xfi l a b) (xet l a b) (.inl s))) (fun p=>some (encR (xfi l a b) (xet l a b) (.inr p)))) (by kernel_rfl) ?_;unfold xd0 xlj;repeat' first|exact eN|exact eS rfl|apply eB
def xkv:Lp:=lpOf [2,7,8,9,10,11,12] [2,7,8,9,10,11,12] [(8,2,31)] (pCons (pFunc 77 pNil) (pCons (pList 3 pAny) (pCons (pOsl 0 0 0) (pCons (pInt .i64) (pCons (pInt .i64) (pCons (pInt .i64) (pCons (pInt .i64) pNil))))))) (pCons (pBox 0 2 31 false true pAny) pNil) fun (_,(l,(a,(d,(e,(i,(c,_))))))) (b,_)=>((Iter (xd0 l a c) (d,e,i,b)).isSome,xet l a c ((Iter (xd0 l a c) (d,e,i,b)).getD (0,0,0,[])))
theorem xnz:LoopOk Tryz.prog (ITryz.at xgC.pin) xgC.nt (loopAt Tryz.f76 1) xkv:=xbr fun e f k g=>by
 obtain ⟨_,⟨l,⟨a,⟨h,⟨j,⟨i,⟨b,_⟩⟩⟩⟩⟩⟩⟩:=e
 obtain ⟨c,_⟩:=f
 obtain ⟨d,rfl⟩:=Prod.mk.inj g
 exact xaG mxTryz (inv0Ok Tryz.prog _) rfl xto xqG (xfi l a b) (xet l a b) (fun p=>by simp only [xet,LR.eval];first|(simp;done)|(repeat' split<;>simp)) (xup l a b) (s:=(h,j,i,c)) (xaf d)
def xgn:Env:=xtq.fn 92 0 (lsOf []) (lpsOf [(6,xkv)])
theorem xtC:OrcOk Tryz.prog (ITryz.at 0) xgn:=xp3.fn
theorem xqY:LoOk Tryz.prog (ITryz.at xgn.pin) xgn (loopAt Tryz.f76 0):=xa7 (ls:=[loopAt Tryz.f76 1]) (by kernel_rfl) (lkC xnz lkN)
def xid (a:Nat):=decide (0≤i64.wrap ((↑a:Int) - 1))&&decide (i64.wrap ((↑a:Int) - 1)<(↑a:Int))
def xny (l:LA) (b:Nat) (d e i c:Int) (a:LA):=(Iter (xd0 l b c) (d,e,i,a)).getD (0,0,0,[])
def xbu (a:Nat):Nat:=0+(i64.wrap ((↑a:Int) - 1)).toNat
def xoj (l:LA) (b:Nat) (d e i c:Int) (a:LA):=(xny l b d e i c a).snd
def xcD (l:LA) (b:Nat) (d e i c:Int) (a:LA):=(xny l b d e i c a).fst
def xob (l:LA) (b:Nat) (d e i c:Int) (a:LA):=(xoj l b d e i c a).snd
def xcF (l:LA) (b:Nat) (d e i c:Int) (a:LA):=(xoj l b d e i c a).fst
def xaH (l:LA) (b:Nat) (d e i c:Int) (a:LA):=(xob l b d e i c a).snd
def xn1 (l:LA) (b:Nat) (d e i c:Int) (a:LA):=xjd (decide (xcD l b d e i c a>0)) (decide (xcF l b d e i c a>0))
def xaJ (l:LA) (b:Nat) (d e i c:Int) (a:LA):=(xob l b d e i c a).fst
def xip (l:LA) (a:Nat) (d e i c:Int) (b:LA):=decide (xbu a<(xaH l a d e i c b).length)
def xn7 (l:LA) (b:Nat) (d e i c:Int) (a:LA):=decide (xaJ l b d e i c a<l.length)
def xlh {T:Type} (l:LA) (a:Nat) (d e i c:Int) (b:LA) (δ:T) (κl:(Nat×Int×Int×Int×Int×LA)→T) (κr:(Nat×LA)→T):T:=br (decide (c<1099511627776)) (br ((Iter (xd0 l a c) (d,e,i,b)).isSome) (br (xn7 l a d e i c b) (br (decide (0≤xaJ l a d e i c b)&&xn7 l a d e i c b) (br (decide ((xaJ l a d e i c b).toNat<l.length)&&hasSh1 (Sh.int .i64) ((l.getD (xaJ l a d e i c b).toNat .top).cells.getD 0 .top)) (br (xn1 l a d e i c b) (br (decide ((↑a:Int)>0)) (br (xid a) (br (xip l a d e i c b&&hasSh1 (Sh.int .i64) (((xaH l a d e i c b).getD (xbu a) .top).cells.getD 1 .top)) (br ((((xaH l a d e i c b).getD (xbu a) .top).cells.getD 1 .top).toInt==c) (br (xid a) (br (xip l a d e i c b) (κl (a,xcD l a d e i c b,xcF l a d e i c b,xaJ l a d e i c b,((l.getD (xaJ l a d e i c b).toNat .top).cells.getD 0 .top).toInt,(xaH l a d e i c b).set (xbu a) (AV.agg (List.take 1 ((xaH l a d e i c b).getD (xbu a) .top).cells++[AV.int .i64 ((l.getD (xaJ l a d e i c b).toNat .top).cells.getD 0 .top).toInt]++List.drop 2 ((xaH l a d e i c b).getD (xbu a) .top).cells)))) δ) δ) (br (a==(xaH l a d e i c b).length&&(decide ((a+1)*16≤140737488355328)&&decide (a+1≤4611686018427387904))) (κl (a+1,xcD l a d e i c b,xcF l a d e i c b,xaJ l a d e i c b,((l.getD (xaJ l a d e i c b).toNat .top).cells.getD 0 .top).toInt,xaH l a d e i c b++[AV.agg [AV.int .i64 c,AV.int .i64 ((l.getD (xaJ l a d e i c b).toNat .top).cells.getD 0 .top).toInt]])) δ)) δ) δ) (br (a==(xaH l a d e i c b).length&&(decide ((a+1)*16≤140737488355328)&&decide (a+1≤4611686018427387904))) (κl (a+1,xcD l a d e i c b,xcF l a d e i c b,xaJ l a d e i c b,((l.getD (xaJ l a d e i c b).toNat .top).cells.getD 0 .top).toInt,xaH l a d e i c b++[AV.agg [AV.int .i64 c,AV.int .i64 ((l.getD (xaJ l a d e i c b).toNat .top).cells.getD 0 .top).toInt]])) δ)) (κl (a,xcD l a d e i c b,xcF l a d e i c b,xaJ l a d e i c b,((l.getD (xaJ l a d e i c b).toNat .top).cells.getD 0 .top).toInt,xaH l a d e i c b))) δ) δ) (br (xn1 l a d e i c b) (br (decide ((↑a:Int)>0)) (br (xid a) (br (xip l a d e i c b&&hasSh1 (Sh.int .i64) (((xaH l a d e i c b).getD (xbu a) .top).cells.getD 1 .top)) (br ((((xaH l a d e i c b).getD (xbu a) .top).cells.getD 1 .top).toInt==c) (br (xid a) (br (xip l a d e i c b) (κl (a,xcD l a d e i c b,xcF l a d e i c b,xaJ l a d e i c b,1099511627776,(xaH l a d e i c b).set (xbu a) (AV.agg (List.take 1 ((xaH l a d e i c b).getD (xbu a) .top).cells++[AV.int .i64 1099511627776]++List.drop 2 ((xaH l a d e i c b).getD (xbu a) .top).cells)))) δ) δ) (br (a==(xaH l a d e i c b).length&&(decide ((a+1)*16≤140737488355328)&&decide (a+1≤4611686018427387904))) (κl (a+1,xcD l a d e i c b,xcF l a d e i c b,xaJ l a d e i c b,1099511627776,xaH l a d e i c b++[AV.agg [AV.int .i64 c,AV.int .i64 1099511627776]])) δ)) δ) δ) (br (a==(xaH l a d e i c b).length&&(decide ((a+1)*16≤140737488355328)&&decide (a+1≤4611686018427387904))) (κl (a+1,xcD l a d e i c b,xcF l a d e i c b,xaJ l a d e i c b,1099511627776,xaH l a d e i c b++[AV.agg [AV.int .i64 c,AV.int .i64 1099511627776]])) δ)) (κl (a,xcD l a d e i c b,xcF l a d e i c b,xaJ l a d e i c b,1099511627776,xaH l a d e i c b)))) δ) (κr (a,b))
def xe5 (l:LA):(Nat×Int×Int×Int×Int×LA)→Option ((Nat×Int×Int×Int×Int×LA)⊕(Nat×LA)):=fun (b,d,e,i,c,a)=>xlh l b d e i c a none (fun s=>some (.inl s)) (fun p=>some (.inr p))
def xfn (l:LA):(Nat×Int×Int×Int×Int×LA)→LA×List Box:=fun (b,d,e,i,c,a)=>([AV.func 77 [],AV.list 3 l,AV.osl 0 0 0 b,AV.int .i64 d,AV.int .i64 e,AV.int .i64 i,AV.int .i64 c],[⟨0,2,31,a,false,true⟩])
def xeA (l:LA):(Nat×LA)→LR:=fun p=>(.leaf (.exit 0) [AV.osl 0 0 0 p.1] [⟨0,2,31,p.2,false,true⟩])
abbrev xuB (a:LA) (H:List Box):=XR Tryz.prog xgn [2,7,8,9,10,11,12] [8] [(8,2,31)] (loopAt Tryz.f76 0) a H
theorem xuG (l:LA) (s:Nat×Int×Int×Int×Int×LA):Enc (encR (xfn l) (xeA l)) (xe5 l s) (xuB (xfn l s).1 (xfn l s).2):=by
 obtain ⟨b,d,e,i,c,a⟩:=s
 refine eV (xlh l b d e i c a none (fun s=>some (encR (xfn l) (xeA l) (.inl s))) (fun p=>some (encR (xfn l) (xeA l) (.inr p)))) (by kernel_rfl) ?_;unfold xe5 xlh;repeat' first|exact eN|exact eS rfl|apply eB
def xog:Lp:=lpOf [2,7,8,9,10,11,12] [8] [(8,2,31)] (pCons (pFunc 77 pNil) (pCons (pList 3 pAny) (pCons (pOsl 0 0 0) (pCons (pInt .i64) (pCons (pInt .i64) (pCons (pInt .i64) (pCons (pInt .i64) pNil))))))) (pCons (pBox 0 2 31 false true pAny) pNil) fun (_,(l,(b,(d,(e,(i,(c,_))))))) (a,_)=>((Iter (xe5 l) (b,d,e,i,c,a)).isSome,xeA l ((Iter (xe5 l) (b,d,e,i,c,a)).getD (0,[])))
theorem xsY:LoopOk Tryz.prog (ITryz.at xgn.pin) xgn.nt (loopAt Tryz.f76 0) xog:=xbr fun e f k g=>by
 obtain ⟨_,⟨l,⟨b,⟨h,⟨j,⟨i,⟨c,_⟩⟩⟩⟩⟩⟩⟩:=e
 obtain ⟨a,_⟩:=f
 obtain ⟨d,rfl⟩:=Prod.mk.inj g
 exact xaG mxTryz (inv0Ok Tryz.prog _) rfl xtC xqY (xfn l) (xeA l) (fun p=>by simp only [xeA,LR.eval];first|(simp;done)|(repeat' split<;>simp)) (xuG l) (s:=(b,h,j,i,c,a)) (xaf d)
def xik:Env:=xtq.fn 92 0 (lsOf []) (lpsOf [(6,xkv),(5,xog)])
theorem xtm:OrcOk Tryz.prog (ITryz.at 0) xik:=xp3.fn
theorem xss:LoOk Tryz.prog (ITryz.at xik.pin) xik (Tryz.f76.body.getD .skip):=xa7 (ls:=[loopAt Tryz.f76 0,loopAt Tryz.f76 1]) (by kernel_rfl) (lkC xsY (lkC xnz lkN))
def xqb (a b:LA):=Iter (xe5 ((xfx a b).getD [])) (0,0,0,0,0,[])
def xqr (a b:LA):=(xqb a b).getD (0,[])
def xqt (a b:LA):=(xqr a b).snd
def xqm (a b:LA):=(xqr a b).fst
def xnK {T:Type} (a b:LA) (δ:T) (κ:LA→T):T:=br ((xfx a b).isSome) (br ((xqb a b).isSome) (br (decide (0+xqm a b≤(xqt a b).length)&&true) (κ (List.take (xqm a b) (List.drop 0 (xqt a b)))) δ) δ) δ
def xho (a b:LA):Option (LA):=xnK a b none some
theorem xy7 (a b:LA):Enc (fun (p:LA)=>((AV.list 2 p):AV)) (xho a b) (XF Tryz.prog xik Tryz.f76 (Tryz.f76.body.getD .skip) [AV.list 2 a,AV.list 2 b,AV.func (77:FuncId) []]):=by
 refine eV (xnK a b none (fun (p:LA)=>some ((AV.list 2 p):AV))) (by kernel_rfl) ?_;unfold xho xnK;repeat' first|exact eN|exact eS rfl|apply eB
def xrB:LA→Option (Bool×AV):=ocOf (sCons (sList 2 pAny) (sCons (sList 2 pAny) (sCons (sEq (pFunc (77:FuncId) pNil)) sNil))) fun (a,(b,(_,_)))=>((xho a b).isSome,(AV.list 2 ((xho a b).getD [])))
theorem xyE:OcOk Tryz.prog ITryz 76 (xrB):=xbc fun f h g=>by
 obtain ⟨a,⟨b,⟨_,_⟩⟩⟩:=f
 obtain ⟨c,e⟩:=Prod.mk.inj g
 refine xaQ (p:=xik.pin) (xa1 mxTryz (inv0Ok Tryz.prog _) rfl xtm Tryz.func76 rfl (by kernel_rfl) xss ((xy7 _ _ _ (xaf (d:=[]) c)).trans ?_))
 exact congrArg some e
def xBJ:Env:=xtq.with 76 xrB
theorem xzz:OrcOk Tryz.prog ITryz xBJ:=xp3.with xyE
def xmJ:Env:=xBJ.fn 5 0 (lsOf []) (lpsOf [])
theorem xAg:OrcOk Tryz.prog (ITryz.at 0) xmJ:=xzz.fn
theorem xyb:LoOk Tryz.prog (ITryz.at xmJ.pin) xmJ (Tryz.f49.body.getD .skip):=xaF (by kernel_rfl)
def xqv {T:Type} (l:LA) (δ:T) (κ:LA→T):T:=br ((xho l []).isSome) (κ ((xho l []).getD [])) δ
def xiO (l:LA):Option (LA):=xqv l none some
theorem xFg (l:LA):Enc (fun (p:LA)=>((AV.list 2 p):AV)) (xiO l) (XF Tryz.prog xmJ Tryz.f49 (Tryz.f49.body.getD .skip) [AV.list 2 l]):=by
 refine eV (xqv l none (fun (p:LA)=>some ((AV.list 2 p):AV))) (by kernel_rfl) ?_;unfold xiO xqv;repeat' first|exact eN|exact eS rfl|apply eB
def xzA:LA→Option (Bool×AV):=ocOf (sCons (sList 2 pAny) sNil) fun (l,_)=>((xiO l).isSome,(AV.list 2 ((xiO l).getD [])))
theorem xE9:OcOk Tryz.prog ITryz 49 (xzA):=xbc fun c f e=>by
 obtain ⟨l,_⟩:=c
 obtain ⟨a,b⟩:=Prod.mk.inj e
 refine xaQ (p:=xmJ.pin) (xa1 mxTryz (inv0Ok Tryz.prog _) rfl xAg Tryz.func49 rfl (by kernel_rfl) xyb ((xFg _ _ (xaf (d:=[]) a)).trans ?_))
 exact congrArg some b
def xFy:Env:=xBJ.with 49 xzA
theorem xEC:OrcOk Tryz.prog ITryz xFy:=xzz.with xE9
abbrev EKP4:Env:=xFy
theorem xui:OrcOk Tryz.prog ITryz EKP4:=xEC
end Go.Sim.M
end
noncomputable section
set_option maxRecDepth 100000
namespace Go.Sim.M
open Go.IntKind (i64 u64 u8)
open Go.RowKit Go.Proofs
def xeu:Env:=EKP4.fn 38 0 (lsOf [42]) (lpsOf [])
theorem xqF:OrcOk Tryz.prog (ITryz.at 0) xeu:=xui.fn
theorem xow:LoOk Tryz.prog (ITryz.at xeu.pin) xeu (loopAt Tryz.f42 1):=xaF (by kernel_rfl)
def xeU {T:Type} (h:LA) (i j:Int) (e:LA) (f:Int) (a:Nat) (b:Int) (c d g:LA) (δ:T) (κl:(Nat×Int×LA×LA×LA)→T) (κr:(Nat×LA)→T):T:=br (decide (b<f)) (br (decide (0≤b)&&decide (b<e.length)) (br (decide (b.toNat<e.length)&&((e.getD b.toNat .top).cells.length==2&&hasShs [Sh.int .i64,Sh.int .i64] (e.getD b.toNat .top).cells 0)) (br (decide (d.length*32≤140737488355328)&&decide (d.length≤4611686018427387904)) (br (decide (0+d.length≤d.length)&&true&&true&&true&&true) (br (a==c.length&&(decide ((a+1)*40≤140737488355328)&&decide (a+1≤4611686018427387904))) (κl (a+1,i64.wrap (b+1),c++[AV.agg [AV.list 3 (List.take d.length (List.drop 0 d)),AV.int .i64 ((e.getD b.toNat .top).cells.getD 0 .top).toInt,AV.int .i64 ((e.getD b.toNat .top).cells.getD 1 .top).toInt]],d,g)) δ) δ) δ) δ) δ) (κr (a,c))
def xbk (c:LA) (d e:Int) (f:LA) (g:Int):(Nat×Int×LA×LA×LA)→Option ((Nat×Int×LA×LA×LA)⊕(Nat×LA)):=fun (b,h,a,i,j)=>xeU c d e f g b h a i j none (fun s=>some (.inl s)) (fun p=>some (.inr p))
def xdI (c:LA) (d e:Int) (f:LA) (g:Int):(Nat×Int×LA×LA×LA)→LA×List Box:=fun (b,h,a,i,j)=>([AV.func 43 [],AV.osl 0 0 0 b,AV.own 1 0 0 0,AV.list 2 c,AV.int .i64 d,AV.int .i64 e,AV.list 2 f,AV.int .i64 g,AV.int .i64 h],[⟨0,3,42,a,false,true⟩,⟨0,2,83,[AV.agg [AV.list 3 i,AV.list 2 j]],false,true⟩])
def xc0 (a:LA) (b c:Int) (d:LA) (e:Int):(Nat×LA)→LR:=fun p=>(.leaf (.exit 2) [AV.func 43 [],AV.osl 0 0 0 p.1,AV.list 2 a,AV.int .i64 b,AV.int .i64 c] [⟨0,3,42,p.2,false,true⟩])
abbrev xrL (a:LA) (H:List Box):=XR Tryz.prog xeu [1,5,7,11,12,13,20,21,22] [1,5,11,12,13] [(5,3,42)] (loopAt Tryz.f42 1) a H
theorem xrs (a:LA) (b c:Int) (d:LA) (e:Int) (s:Nat×Int×LA×LA×LA):Enc (encR (xdI a b c d e) (xc0 a b c d e)) (xbk a b c d e s) (xrL (xdI a b c d e s).1 (xdI a b c d e s).2):=by
 obtain ⟨g,h,f,i,j⟩:=s
 refine eV (xeU a b c d e g h f i j none (fun s=>some (encR (xdI a b c d e) (xc0 a b c d e) (.inl s))) (fun p=>some (encR (xdI a b c d e) (xc0 a b c d e) (.inr p)))) (by kernel_rfl) ?_;unfold xbk xeU;repeat' first|exact eN|exact eS rfl|apply eB
def xit:Lp:=lpOf [1,5,7,11,12,13,20,21,22] [1,5,11,12,13] [(5,3,42)] (pCons (pFunc 43 pNil) (pCons (pOsl 0 0 0) (pCons (pOwn 1 0 0 0) (pCons (pList 2 pAny) (pCons (pInt .i64) (pCons (pInt .i64) (pCons (pList 2 pAny) (pCons (pInt .i64) (pCons (pInt .i64) pNil))))))))) (pCons (pBox 0 3 42 false true pAny) (pCons (pBox 0 2 83 false true (pCons (pAgg (pCons (pList 3 pAny) (pCons (pList 2 pAny) pNil))) pNil)) pNil)) fun (_,(b,(_,(c,(d,(e,(f,(g,(h,_))))))))) (a,(((i,(j,_)),_),_))=>((Iter (xbk c d e f g) (b,h,a,i,j)).isSome,xc0 c d e f g ((Iter (xbk c d e f g) (b,h,a,i,j)).getD (0,[])))
theorem xk8:LoopOk Tryz.prog (ITryz.at xeu.pin) xeu.nt (loopAt Tryz.f42 1) xit:=xbr fun l m o n=>by
 obtain ⟨_,⟨g,⟨_,⟨a,⟨b,⟨c,⟨d,⟨e,⟨h,_⟩⟩⟩⟩⟩⟩⟩⟩⟩:=l
 obtain ⟨f,⟨⟨⟨i,⟨j,_⟩⟩,_⟩,_⟩⟩:=m
 obtain ⟨k,rfl⟩:=Prod.mk.inj n
 exact xaG mxTryz (inv0Ok Tryz.prog _) rfl xqF xow (xdI a b c d e) (xc0 a b c d e) (fun p=>by simp only [xc0,LR.eval];first|(simp;done)|(repeat' split<;>simp)) (xrs a b c d e) (s:=(g,h,f,i,j)) (xaf k)
def xeB:Env:=EKP4.fn 38 0 (lsOf [42]) (lpsOf [(6,xit)])
theorem xqI:OrcOk Tryz.prog (ITryz.at 0) xeB:=xui.fn
theorem xoP:LoOk Tryz.prog (ITryz.at xeB.pin) xeB (loopAt Tryz.f42 0):=xa7 (ls:=[loopAt Tryz.f42 1]) (by kernel_rfl) (lkC xk8 lkN)
def xiw (a:LA) (e:Int) (d:Nat) (b:Int) (c:LA):=Iter (xbk a e b ((xde ((a.getD b.toNat .top).cells.getD 1 .top).toList).getD []) (↑((xde ((a.getD b.toNat .top).cells.getD 1 .top).toList).getD []).length:Int)) (d,0,c,((a.getD b.toNat .top).cells.getD 0 .top).toList,((a.getD b.toNat .top).cells.getD 1 .top).toList)
def xiu (c:LA) (d:Int) (b:Nat) (e:Int) (a:LA):=(xiw c d b e a).getD (0,[])
def xeZ {T:Type} (c:LA) (e:Int) (d:Nat) (a:Int) (b:LA) (δ:T) (κl:(Nat×Int×LA)→T) (κr:(Nat×LA)→T):T:=br (decide (a<e)) (br (decide (0≤a)&&decide (a<c.length)) (br (decide (a.toNat<c.length)&&((c.getD a.toNat .top).cells.length==2&&hasShs [Sh.list 3,Sh.list 2] (c.getD a.toNat .top).cells 0)) (br ((xde ((c.getD a.toNat .top).cells.getD 1 .top).toList).isSome) (br ((xiw c e d a b).isSome) (κl ((xiu c e d a b).fst,i64.wrap (a+1),(xiu c e d a b).snd)) δ) δ) δ) δ) (κr (d,b))
def xbN (c:LA) (d:Int):(Nat×Int×LA)→Option ((Nat×Int×LA)⊕(Nat×LA)):=fun (b,e,a)=>xeZ c d b e a none (fun s=>some (.inl s)) (fun p=>some (.inr p))
def xdE (c:LA) (d:Int):(Nat×Int×LA)→LA×List Box:=fun (b,e,a)=>([AV.func 43 [],AV.osl 0 0 0 b,AV.list 2 c,AV.int .i64 d,AV.int .i64 e],[⟨0,3,42,a,false,true⟩])
def xc2 (a:LA) (b:Int):(Nat×LA)→LR:=fun p=>(.leaf (.exit 0) [AV.osl 0 0 0 p.1] [⟨0,3,42,p.2,false,true⟩])
abbrev xrC (a:LA) (H:List Box):=XR Tryz.prog xeB [1,5,11,12,13] [5] [(5,3,42)] (loopAt Tryz.f42 0) a H
theorem xrP (a:LA) (b:Int) (s:Nat×Int×LA):Enc (encR (xdE a b) (xc2 a b)) (xbN a b s) (xrC (xdE a b s).1 (xdE a b s).2):=by
 obtain ⟨d,e,c⟩:=s
 refine eV (xeZ a b d e c none (fun s=>some (encR (xdE a b) (xc2 a b) (.inl s))) (fun p=>some (encR (xdE a b) (xc2 a b) (.inr p)))) (by kernel_rfl) ?_;unfold xbN xeZ;repeat' first|exact eN|exact eS rfl|apply eB
def xlr:Lp:=lpOf [1,5,11,12,13] [5] [(5,3,42)] (pCons (pFunc 43 pNil) (pCons (pOsl 0 0 0) (pCons (pList 2 pAny) (pCons (pInt .i64) (pCons (pInt .i64) pNil))))) (pCons (pBox 0 3 42 false true pAny) pNil) fun (_,(b,(c,(d,(e,_))))) (a,_)=>((Iter (xbN c d) (b,e,a)).isSome,xc2 c d ((Iter (xbN c d) (b,e,a)).getD (0,[])))
theorem xpP:LoopOk Tryz.prog (ITryz.at xeB.pin) xeB.nt (loopAt Tryz.f42 0) xlr:=xbr fun g h j i=>by
 obtain ⟨_,⟨d,⟨a,⟨b,⟨e,_⟩⟩⟩⟩⟩:=g
 obtain ⟨c,_⟩:=h
 obtain ⟨f,rfl⟩:=Prod.mk.inj i
 exact xaG mxTryz (inv0Ok Tryz.prog _) rfl xqI xoP (xdE a b) (xc2 a b) (fun p=>by simp only [xc2,LR.eval];first|(simp;done)|(repeat' split<;>simp)) (xrP a b) (s:=(d,e,c)) (xaf f)
def xfH:Env:=EKP4.fn 38 0 (lsOf [42]) (lpsOf [(6,xit),(3,xlr)])
theorem xqK:OrcOk Tryz.prog (ITryz.at 0) xfH:=xui.fn
theorem xpD:LoOk Tryz.prog (ITryz.at xfH.pin) xfH (Tryz.f42.body.getD .skip):=xa7 (ls:=[loopAt Tryz.f42 0,loopAt Tryz.f42 1]) (by kernel_rfl) (lkC xpP (lkC xk8 lkN))
def xjK (l:LA):=Iter (xbN ((xcR l).getD []) (↑((xcR l).getD []).length:Int)) (0,0,[])
def xjN (l:LA):=(xjK l).getD (0,[])
def xjH (l:LA):=(xjN l).snd
def xjC (l:LA):=(xjN l).fst
def xh0 {T:Type} (l:LA) (δ:T) (κ:LA→T):T:=br ((xcR l).isSome) (br ((xjK l).isSome) (br (decide (0+xjC l≤(xjH l).length)&&true) (κ (List.take (xjC l) (List.drop 0 (xjH l)))) δ) δ) δ
def xeH (l:LA):Option (LA):=xh0 l none some
theorem xtW (l:LA):Enc (fun (p:LA)=>((AV.list 3 p):AV)) (xeH l) (XF Tryz.prog xfH Tryz.f42 (Tryz.f42.body.getD .skip) [AV.list 3 l,AV.func (43:FuncId) []]):=by
 refine eV (xh0 l none (fun (p:LA)=>some ((AV.list 3 p):AV))) (by kernel_rfl) ?_;unfold xeH xh0;repeat' first|exact eN|exact eS rfl|apply eB
def xos:LA→Option (Bool×AV):=ocOf (sCons (sList 3 pAny) (sCons (sEq (pFunc (43:FuncId) pNil)) sNil)) fun (l,(_,_))=>((xeH l).isSome,(AV.list 3 ((xeH l).getD [])))
theorem xtM:OcOk Tryz.prog ITryz 42 (xos):=xbc fun c f e=>by
 obtain ⟨l,⟨_,_⟩⟩:=c
 obtain ⟨a,b⟩:=Prod.mk.inj e
 refine xaQ (p:=xfH.pin) (xa1 mxTryz (inv0Ok Tryz.prog _) rfl xqK Tryz.func42 rfl (by kernel_rfl) xpD ((xtW _ _ (xaf (d:=[]) a)).trans ?_))
 exact congrArg some b
def xAW:Env:=EKP4.with 42 xos
theorem xzK:OrcOk Tryz.prog ITryz xAW:=xui.with xtM
def xhW:Env:=xAW.fn 5 0 (lsOf []) (lpsOf [])
theorem xtA:OrcOk Tryz.prog (ITryz.at 0) xhW:=xzK.fn
theorem xsf:LoOk Tryz.prog (ITryz.at xhW.pin) xhW (Tryz.f14.body.getD .skip):=xaF (by kernel_rfl)
def xkN {T:Type} (l:LA) (δ:T) (κ:LA→T):T:=br ((xeH l).isSome) (κ ((xeH l).getD [])) δ
def xdc (l:LA):Option (LA):=xkN l none some
theorem xy4 (l:LA):Enc (fun (p:LA)=>((AV.list 3 p):AV)) (xdc l) (XF Tryz.prog xhW Tryz.f14 (Tryz.f14.body.getD .skip) [AV.list 3 l]):=by
 refine eV (xkN l none (fun (p:LA)=>some ((AV.list 3 p):AV))) (by kernel_rfl) ?_;unfold xdc xkN;repeat' first|exact eN|exact eS rfl|apply eB
def xro:LA→Option (Bool×AV):=ocOf (sCons (sList 3 pAny) sNil) fun (l,_)=>((xdc l).isSome,(AV.list 3 ((xdc l).getD [])))
theorem xyp:OcOk Tryz.prog ITryz 14 (xro):=xbc fun c f e=>by
 obtain ⟨l,_⟩:=c
 obtain ⟨a,b⟩:=Prod.mk.inj e
 refine xaQ (p:=xhW.pin) (xa1 mxTryz (inv0Ok Tryz.prog _) rfl xtA Tryz.func14 rfl (by kernel_rfl) xsf ((xy4 _ _ (xaf (d:=[]) a)).trans ?_))
 exact congrArg some b
def xs6:Env:=xAW.with 14 xro
theorem xqe:OrcOk Tryz.prog ITryz xs6:=xzK.with xyp
def xeq:Env:=xs6.fn 38 0 (lsOf [42]) (lpsOf [])
theorem xq9:OrcOk Tryz.prog (ITryz.at 0) xeq:=xqe.fn
theorem xoI:LoOk Tryz.prog (ITryz.at xeq.pin) xeq (loopAt Tryz.f42 1):=xaF (by kernel_rfl)
def xi6 {T:Type} (h:LA) (i j:Int) (e:LA) (f:Int) (a:Nat) (b:Int) (c d g:LA) (δ:T) (κl:(Nat×Int×LA×LA×LA)→T) (κr:(Nat×LA)→T):T:=br (decide (b<f)) (br (decide (0≤b)&&decide (b<e.length)) (br (decide (b.toNat<e.length)&&((e.getD b.toNat .top).cells.length==2&&hasShs [Sh.int .i64,Sh.int .i64] (e.getD b.toNat .top).cells 0)) (br (decide (d.length*32≤140737488355328)&&decide (d.length≤4611686018427387904)) (br (decide (0+d.length≤d.length)&&true&&true&&true&&true) (br (a==c.length&&(decide ((a+1)*40≤140737488355328)&&decide (a+1≤4611686018427387904))) (κl (a+1,i64.wrap (b+1),c++[AV.agg [AV.list 3 (List.take d.length (List.drop 0 d)),AV.int .i64 ((e.getD b.toNat .top).cells.getD 0 .top).toInt,AV.int .i64 ((e.getD b.toNat .top).cells.getD 1 .top).toInt]],d,g)) δ) δ) δ) δ) δ) (κr (a,c))
def xcV (c:LA) (d e:Int) (f:LA) (g:Int):(Nat×Int×LA×LA×LA)→Option ((Nat×Int×LA×LA×LA)⊕(Nat×LA)):=fun (b,h,a,i,j)=>xi6 c d e f g b h a i j none (fun s=>some (.inl s)) (fun p=>some (.inr p))
def xdJ (c:LA) (d e:Int) (f:LA) (g:Int):(Nat×Int×LA×LA×LA)→LA×List Box:=fun (b,h,a,i,j)=>([AV.func 49 [],AV.osl 0 0 0 b,AV.own 1 0 0 0,AV.list 2 c,AV.int .i64 d,AV.int .i64 e,AV.list 2 f,AV.int .i64 g,AV.int .i64 h],[⟨0,3,42,a,false,true⟩,⟨0,2,83,[AV.agg [AV.list 3 i,AV.list 2 j]],false,true⟩])
def xc1 (a:LA) (b c:Int) (d:LA) (e:Int):(Nat×LA)→LR:=fun p=>(.leaf (.exit 2) [AV.func 49 [],AV.osl 0 0 0 p.1,AV.list 2 a,AV.int .i64 b,AV.int .i64 c] [⟨0,3,42,p.2,false,true⟩])
abbrev xrg (a:LA) (H:List Box):=XR Tryz.prog xeq [1,5,7,11,12,13,20,21,22] [1,5,11,12,13] [(5,3,42)] (loopAt Tryz.f42 1) a H
theorem xrM (a:LA) (b c:Int) (d:LA) (e:Int) (s:Nat×Int×LA×LA×LA):Enc (encR (xdJ a b c d e) (xc1 a b c d e)) (xcV a b c d e s) (xrg (xdJ a b c d e s).1 (xdJ a b c d e s).2):=by
 obtain ⟨g,h,f,i,j⟩:=s
 refine eV (xi6 a b c d e g h f i j none (fun s=>some (encR (xdJ a b c d e) (xc1 a b c d e) (.inl s))) (fun p=>some (encR (xdJ a b c d e) (xc1 a b c d e) (.inr p)))) (by kernel_rfl) ?_;unfold xcV xi6;repeat' first|exact eN|exact eS rfl|apply eB
def xiB:Lp:=lpOf [1,5,7,11,12,13,20,21,22] [1,5,11,12,13] [(5,3,42)] (pCons (pFunc 49 pNil) (pCons (pOsl 0 0 0) (pCons (pOwn 1 0 0 0) (pCons (pList 2 pAny) (pCons (pInt .i64) (pCons (pInt .i64) (pCons (pList 2 pAny) (pCons (pInt .i64) (pCons (pInt .i64) pNil))))))))) (pCons (pBox 0 3 42 false true pAny) (pCons (pBox 0 2 83 false true (pCons (pAgg (pCons (pList 3 pAny) (pCons (pList 2 pAny) pNil))) pNil)) pNil)) fun (_,(b,(_,(c,(d,(e,(f,(g,(h,_))))))))) (a,(((i,(j,_)),_),_))=>((Iter (xcV c d e f g) (b,h,a,i,j)).isSome,xc1 c d e f g ((Iter (xcV c d e f g) (b,h,a,i,j)).getD (0,[])))
theorem xk9:LoopOk Tryz.prog (ITryz.at xeq.pin) xeq.nt (loopAt Tryz.f42 1) xiB:=xbr fun l m o n=>by
 obtain ⟨_,⟨g,⟨_,⟨a,⟨b,⟨c,⟨d,⟨e,⟨h,_⟩⟩⟩⟩⟩⟩⟩⟩⟩:=l
 obtain ⟨f,⟨⟨⟨i,⟨j,_⟩⟩,_⟩,_⟩⟩:=m
 obtain ⟨k,rfl⟩:=Prod.mk.inj n
 exact xaG mxTryz (inv0Ok Tryz.prog _) rfl xq9 xoI (xdJ a b c d e) (xc1 a b c d e) (fun p=>by simp only [xc1,LR.eval];first|(simp;done)|(repeat' split<;>simp)) (xrM a b c d e) (s:=(g,h,f,i,j)) (xaf k)
def xev:Env:=xs6.fn 38 0 (lsOf [42]) (lpsOf [(6,xiB)])
theorem xqO:OrcOk Tryz.prog (ITryz.at 0) xev:=xqe.fn
theorem xoF:LoOk Tryz.prog (ITryz.at xev.pin) xev (loopAt Tryz.f42 0):=xa7 (ls:=[loopAt Tryz.f42 1]) (by kernel_rfl) (lkC xk9 lkN)
def xiy (a:LA) (e:Int) (d:Nat) (b:Int) (c:LA):=Iter (xcV a e b ((xiO ((a.getD b.toNat .top).cells.getD 1 .top).toList).getD []) (↑((xiO ((a.getD b.toNat .top).cells.getD 1 .top).toList).getD []).length:Int)) (d,0,c,((a.getD b.toNat .top).cells.getD 0 .top).toList,((a.getD b.toNat .top).cells.getD 1 .top).toList)
def xiv (c:LA) (d:Int) (b:Nat) (e:Int) (a:LA):=(xiy c d b e a).getD (0,[])
def xeX {T:Type} (c:LA) (e:Int) (d:Nat) (a:Int) (b:LA) (δ:T) (κl:(Nat×Int×LA)→T) (κr:(Nat×LA)→T):T:=br (decide (a<e)) (br (decide (0≤a)&&decide (a<c.length)) (br (decide (a.toNat<c.length)&&((c.getD a.toNat .top).cells.length==2&&hasShs [Sh.list 3,Sh.list 2] (c.getD a.toNat .top).cells 0)) (br ((xiO ((c.getD a.toNat .top).cells.getD 1 .top).toList).isSome) (br ((xiy c e d a b).isSome) (κl ((xiv c e d a b).fst,i64.wrap (a+1),(xiv c e d a b).snd)) δ) δ) δ) δ) (κr (d,b))
def xbO (c:LA) (d:Int):(Nat×Int×LA)→Option ((Nat×Int×LA)⊕(Nat×LA)):=fun (b,e,a)=>xeX c d b e a none (fun s=>some (.inl s)) (fun p=>some (.inr p))
def xdK (c:LA) (d:Int):(Nat×Int×LA)→LA×List Box:=fun (b,e,a)=>([AV.func 49 [],AV.osl 0 0 0 b,AV.list 2 c,AV.int .i64 d,AV.int .i64 e],[⟨0,3,42,a,false,true⟩])
def xc5 (a:LA) (b:Int):(Nat×LA)→LR:=fun p=>(.leaf (.exit 0) [AV.osl 0 0 0 p.1] [⟨0,3,42,p.2,false,true⟩])
abbrev xry (a:LA) (H:List Box):=XR Tryz.prog xev [1,5,11,12,13] [5] [(5,3,42)] (loopAt Tryz.f42 0) a H
theorem xrQ (a:LA) (b:Int) (s:Nat×Int×LA):Enc (encR (xdK a b) (xc5 a b)) (xbO a b s) (xry (xdK a b s).1 (xdK a b s).2):=by
 obtain ⟨d,e,c⟩:=s
 refine eV (xeX a b d e c none (fun s=>some (encR (xdK a b) (xc5 a b) (.inl s))) (fun p=>some (encR (xdK a b) (xc5 a b) (.inr p)))) (by kernel_rfl) ?_;unfold xbO xeX;repeat' first|exact eN|exact eS rfl|apply eB
def xls:Lp:=lpOf [1,5,11,12,13] [5] [(5,3,42)] (pCons (pFunc 49 pNil) (pCons (pOsl 0 0 0) (pCons (pList 2 pAny) (pCons (pInt .i64) (pCons (pInt .i64) pNil))))) (pCons (pBox 0 3 42 false true pAny) pNil) fun (_,(b,(c,(d,(e,_))))) (a,_)=>((Iter (xbO c d) (b,e,a)).isSome,xc5 c d ((Iter (xbO c d) (b,e,a)).getD (0,[])))
theorem xpQ:LoopOk Tryz.prog (ITryz.at xev.pin) xev.nt (loopAt Tryz.f42 0) xls:=xbr fun g h j i=>by
 obtain ⟨_,⟨d,⟨a,⟨b,⟨e,_⟩⟩⟩⟩⟩:=g
 obtain ⟨c,_⟩:=h
 obtain ⟨f,rfl⟩:=Prod.mk.inj i
 exact xaG mxTryz (inv0Ok Tryz.prog _) rfl xqO xoF (xdK a b) (xc5 a b) (fun p=>by simp only [xc5,LR.eval];first|(simp;done)|(repeat' split<;>simp)) (xrQ a b) (s:=(d,e,c)) (xaf f)
def xfJ:Env:=xs6.fn 38 0 (lsOf [42]) (lpsOf [(6,xiB),(3,xls)])
theorem xq0:OrcOk Tryz.prog (ITryz.at 0) xfJ:=xqe.fn
theorem xpj:LoOk Tryz.prog (ITryz.at xfJ.pin) xfJ (Tryz.f42.body.getD .skip):=xa7 (ls:=[loopAt Tryz.f42 0,loopAt Tryz.f42 1]) (by kernel_rfl) (lkC xpQ (lkC xk9 lkN))
def xjO (l:LA):=Iter (xbO ((xcR l).getD []) (↑((xcR l).getD []).length:Int)) (0,0,[])
def xjI (l:LA):=(xjO l).getD (0,[])
def xjG (l:LA):=(xjI l).snd
def xjF (l:LA):=(xjI l).fst
def xio {T:Type} (l:LA) (δ:T) (κ:LA→T):T:=br ((xcR l).isSome) (br ((xjO l).isSome) (br (decide (0+xjF l≤(xjG l).length)&&true) (κ (List.take (xjF l) (List.drop 0 (xjG l)))) δ) δ) δ
def xeI (l:LA):Option (LA):=xio l none some
theorem xti (l:LA):Enc (fun (p:LA)=>((AV.list 3 p):AV)) (xeI l) (XF Tryz.prog xfJ Tryz.f42 (Tryz.f42.body.getD .skip) [AV.list 3 l,AV.func (49:FuncId) []]):=by
 refine eV (xio l none (fun (p:LA)=>some ((AV.list 3 p):AV))) (by kernel_rfl) ?_;unfold xeI xio;repeat' first|exact eN|exact eS rfl|apply eB
def xoi:LA→Option (Bool×AV):=ocOf (sCons (sList 3 pAny) (sCons (sEq (pFunc (49:FuncId) pNil)) sNil)) fun (l,(_,_))=>((xeI l).isSome,(AV.list 3 ((xeI l).getD [])))
theorem xs7:OcOk Tryz.prog ITryz 42 (xoi):=xbc fun c f e=>by
 obtain ⟨l,⟨_,_⟩⟩:=c
 obtain ⟨a,b⟩:=Prod.mk.inj e
 refine xaQ (p:=xfJ.pin) (xa1 mxTryz (inv0Ok Tryz.prog _) rfl xq0 Tryz.func42 rfl (by kernel_rfl) xpj ((xti _ _ (xaf (d:=[]) a)).trans ?_))
 exact congrArg some b
def xBP:Env:=xs6.with 42 xoi
theorem xzM:OrcOk Tryz.prog ITryz xBP:=xqe.with xs7
def xhT:Env:=xBP.fn 5 0 (lsOf []) (lpsOf [])
theorem xtv:OrcOk Tryz.prog (ITryz.at 0) xhT:=xzM.fn
theorem xsb:LoOk Tryz.prog (ITryz.at xhT.pin) xhT (Tryz.f16.body.getD .skip):=xaF (by kernel_rfl)
def xkX {T:Type} (l:LA) (δ:T) (κ:LA→T):T:=br ((xeI l).isSome) (κ ((xeI l).getD [])) δ
def xe2 (l:LA):Option (LA):=xkX l none some
theorem xyw (l:LA):Enc (fun (p:LA)=>((AV.list 3 p):AV)) (xe2 l) (XF Tryz.prog xhT Tryz.f16 (Tryz.f16.body.getD .skip) [AV.list 3 l]):=by
 refine eV (xkX l none (fun (p:LA)=>some ((AV.list 3 p):AV))) (by kernel_rfl) ?_;unfold xe2 xkX;repeat' first|exact eN|exact eS rfl|apply eB
def xrI:LA→Option (Bool×AV):=ocOf (sCons (sList 3 pAny) sNil) fun (l,_)=>((xe2 l).isSome,(AV.list 3 ((xe2 l).getD [])))
theorem xys:OcOk Tryz.prog ITryz 16 (xrI):=xbc fun c f e=>by
 obtain ⟨l,_⟩:=c
 obtain ⟨a,b⟩:=Prod.mk.inj e
 refine xaQ (p:=xhT.pin) (xa1 mxTryz (inv0Ok Tryz.prog _) rfl xtv Tryz.func16 rfl (by kernel_rfl) xsb ((xyw _ _ (xaf (d:=[]) a)).trans ?_))
 exact congrArg some b
def xE1:Env:=xBP.with 16 xrI
theorem xEU:OrcOk Tryz.prog ITryz xE1:=xzM.with xys
abbrev EKP5:Env:=xE1
theorem xIW:OrcOk Tryz.prog ITryz EKP5:=xEU
end Go.Sim.M
end
noncomputable section
set_option maxRecDepth 100000
namespace Go.Sim.M
open Go.IntKind (i64 u64 u8)
open Go.RowKit Go.Proofs
abbrev xHY:Env:=EKP5
theorem xHe:OrcOk Tryz.prog ITryz xHY:=xIW
abbrev xH1:Env:=xHY
theorem xHB:OrcOk Tryz.prog ITryz xH1:=xHe
abbrev xHR:Env:=xH1
theorem xHu:OrcOk Tryz.prog ITryz xHR:=xHB
abbrev xHP:Env:=xHR
theorem xG2:OrcOk Tryz.prog ITryz xHP:=xHu
abbrev xHG:Env:=xHP
theorem xGG:OrcOk Tryz.prog ITryz xHG:=xG2
abbrev xHQ:Env:=xHG
theorem xGL:OrcOk Tryz.prog ITryz xHQ:=xGG
abbrev xHZ:Env:=xHQ
theorem xHb:OrcOk Tryz.prog ITryz xHZ:=xGL
abbrev xH3:Env:=xHZ
theorem xG4:OrcOk Tryz.prog ITryz xH3:=xHb
abbrev EKV:Env:=xH3
theorem xJt:OrcOk Tryz.prog ITryz EKV:=xG4
end Go.Sim.M
end
noncomputable section
set_option maxRecDepth 100000
namespace Go.Sim.M
open Go.IntKind (i64 u64 u8)
open Go.RowKit Go.Proofs
abbrev xHL:Env:=EKV
theorem xGS:OrcOk Tryz.prog ITryz xHL:=xJt
abbrev xHT:Env:=xHL
theorem xHm:OrcOk Tryz.prog ITryz xHT:=xGS
abbrev xHI:Env:=xHT
theorem xG3:OrcOk Tryz.prog ITryz xHI:=xHm
abbrev xHM:Env:=xHI
theorem xGX:OrcOk Tryz.prog ITryz xHM:=xG3
abbrev xAp:Env:=xHM
theorem xvS:OrcOk Tryz.prog ITryz xAp:=xGX
def xgo:Env:=xAp.fn 26 0 (lsOf []) (lpsOf [])
theorem xtt:OrcOk Tryz.prog (ITryz.at 0) xgo:=xvS.fn
theorem xq8:LoOk Tryz.prog (ITryz.at xgo.pin) xgo (loopAt Tryz.f81 0):=xaF (by kernel_rfl)
def xgF {T:Type} (b c:LA) (d a:Int) (δ:T) (κl:(Int)→T) (κr:(Bool×(Bool)×(Unit))→T):T:=br (decide (a<d)) (br (decide (0≤a)&&decide (a<b.length)) (br (decide (a.toNat<b.length)&&((b.getD a.toNat .top).cells.length==3&&hasShs [Sh.int .i64,Sh.int .i64,Sh.str] (b.getD a.toNat .top).cells 0)) (br (decide (0≤a)&&decide (a<c.length)) (br (decide (a.toNat<c.length)&&((c.getD a.toNat .top).cells.length==3&&hasShs [Sh.int .i64,Sh.int .i64,Sh.str] (c.getD a.toNat .top).cells 0)) (br (!(((b.getD a.toNat .top).cells.getD 0 .top).toInt==((c.getD a.toNat .top).cells.getD 0 .top).toInt&&(((b.getD a.toNat .top).cells.getD 1 .top).toInt==((c.getD a.toNat .top).cells.getD 1 .top).toInt&&(((b.getD a.toNat .top).cells.getD 2 .top).toStr==((c.getD a.toNat .top).cells.getD 2 .top).toStr&&true)))) (κr (true,(false),())) (κl (i64.wrap (a+1)))) δ) δ) δ) δ) (κr (false,false,()))
def xbE (c d:LA) (a:Int):(Int)→Option ((Int)⊕(Bool×(Bool)×(Unit))):=fun (b)=>xgF c d a b none (fun s=>some (.inl s)) (fun p=>some (.inr p))
def xfg (c d:LA) (a:Int):(Int)→LA×List Box:=fun (b)=>([AV.list 3 c,AV.list 3 d,AV.int .i64 a,AV.int .i64 b],[])
def xew (b c:LA) (a:Int):(Bool×(Bool)×(Unit))→LR:=fun p=>(.node p.1 (.leaf .ret [AV.bool p.2.1] []) (.leaf (.exit 0) [.top] []))
abbrev xuC (a:LA) (H:List Box):=XR Tryz.prog xgo [0,1,12,13] [4] [] (loopAt Tryz.f81 0) a H
theorem xuI (b c:LA) (a d:Int):Enc (encR (xfg b c a) (xew b c a)) (xbE b c a d) (xuC (xfg b c a d).1 (xfg b c a d).2):=by
 refine eV (xgF b c a d none (fun s=>some (encR (xfg b c a) (xew b c a) (.inl s))) (fun p=>some (encR (xfg b c a) (xew b c a) (.inr p)))) (by kernel_rfl) ?_;unfold xbE xgF;repeat' first|exact eN|exact eS rfl|apply eB
def xoq:Lp:=lpOf [0,1,12,13] [4] [] (pCons (pList 3 pAny) (pCons (pList 3 pAny) (pCons (pInt .i64) (pCons (pInt .i64) pNil)))) pNil fun (c,(d,(a,(b,_)))) _=>((Iter (xbE c d a) (b)).isSome,xew c d a ((Iter (xbE c d a) (b)).getD (false,false,())))
theorem xsT:LoopOk Tryz.prog (ITryz.at xgo.pin) xgo.nt (loopAt Tryz.f81 0) xoq:=xbr fun f h i g=>by
 obtain ⟨b,⟨c,⟨a,⟨d,_⟩⟩⟩⟩:=f
 obtain ⟨e,rfl⟩:=Prod.mk.inj g
 exact xaG mxTryz (inv0Ok Tryz.prog _) rfl xtt xq8 (xfg b c a) (xew b c a) (fun p=>by simp only [xew,LR.eval];first|(simp;done)|(repeat' split<;>simp)) (xuI b c a) (s:=(d)) (xaf e)
def xih:Env:=xAp.fn 26 0 (lsOf []) (lpsOf [(4,xoq)])
theorem xua:OrcOk Tryz.prog (ITryz.at 0) xih:=xvS.fn
theorem xrx:LoOk Tryz.prog (ITryz.at xih.pin) xih (Tryz.f81.body.getD .skip):=xa7 (ls:=[loopAt Tryz.f81 0]) (by kernel_rfl) (lkC xsT lkN)
def xkS {T:Type} (a b:LA) (δ:T) (κ:Bool→T):T:=br ((↑a.length:Int) != (↑b.length:Int)) (κ (false)) (br ((Iter (xbE a b (↑a.length:Int)) 0).isSome) (br (((Iter (xbE a b (↑a.length:Int)) 0).getD (false,false,())).fst) (κ (((Iter (xbE a b (↑a.length:Int)) 0).getD (false,false,())).snd.fst)) (κ (true))) δ)
def xf9 (a b:LA):Option (Bool):=xkS a b none some
theorem xyO (a b:LA):Enc (fun (p:Bool)=>((AV.bool p):AV)) (xf9 a b) (XF Tryz.prog xih Tryz.f81 (Tryz.f81.body.getD .skip) [AV.list 3 a,AV.list 3 b]):=by
 refine eV (xkS a b none (fun (p:Bool)=>some ((AV.bool p):AV))) (by kernel_rfl) ?_;unfold xf9 xkS;repeat' first|exact eN|exact eS rfl|apply eB
def xri:LA→Option (Bool×AV):=ocOf (sCons (sList 3 pAny) (sCons (sList 3 pAny) sNil)) fun (a,(b,_))=>((xf9 a b).isSome,(AV.bool ((xf9 a b).getD false)))
theorem xyx:OcOk Tryz.prog ITryz 81 (xri):=xbc fun c f e=>by
 obtain ⟨g,⟨h,_⟩⟩:=c
 obtain ⟨a,b⟩:=Prod.mk.inj e
 refine xaQ (p:=xih.pin) (xa1 mxTryz (inv0Ok Tryz.prog _) rfl xua Tryz.func81 rfl (by kernel_rfl) xrx ((xyO _ _ _ (xaf (d:=false) a)).trans ?_))
 exact congrArg some b
def xDx:Env:=xAp.with 81 xri
theorem xAJ:OrcOk Tryz.prog ITryz xDx:=xvS.with xyx
def xeE:Env:=xDx.fn 17 0 (lsOf []) (lpsOf [])
theorem xo6:OrcOk Tryz.prog (ITryz.at 0) xeE:=xAJ.fn
theorem xn0:LoOk Tryz.prog (ITryz.at xeE.pin) xeE (Tryz.f80.body.getD .skip):=xaF (by kernel_rfl)
def xgi {T:Type} (a:LA) (c d:Int) (b:LA) (e f:Int) (δ:T) (κ:Bool→T):T:=br (c==e&&(d==f&&true)) (br ((xf9 a b).isSome) (κ ((xf9 a b).getD false)) δ) (κ (false))
def xdo (a:LA) (b c:Int) (d:LA) (e f:Int):Option (Bool):=xgi a b c d e f none some
theorem xrj (a:LA) (b c:Int) (d:LA) (e f:Int):Enc (fun (p:Bool)=>((AV.bool p):AV)) (xdo a b c d e f) (XF Tryz.prog xeE Tryz.f80 (Tryz.f80.body.getD .skip) [AV.agg [AV.list 3 a,AV.int .i64 b,AV.int .i64 c],AV.agg [AV.list 3 d,AV.int .i64 e,AV.int .i64 f]]):=by
 refine eV (xgi a b c d e f none (fun (p:Bool)=>some ((AV.bool p):AV))) (by kernel_rfl) ?_;unfold xdo xgi;repeat' first|exact eN|exact eS rfl|apply eB
def xmf:LA→Option (Bool×AV):=ocOf (sCons (sAgg (sCons (sList 3 pAny) (sCons (sEq (pInt .i64)) (sCons (sEq (pInt .i64)) sNil)))) (sCons (sAgg (sCons (sList 3 pAny) (sCons (sEq (pInt .i64)) (sCons (sEq (pInt .i64)) sNil)))) sNil)) fun ((a,(b,(c,_))),((d,(e,(f,_))),_))=>((xdo a b c d e f).isSome,(AV.bool ((xdo a b c d e f).getD false)))
theorem xrF:OcOk Tryz.prog ITryz 80 (xmf):=xbc fun c l e=>by
 obtain ⟨⟨f,⟨g,⟨h,_⟩⟩⟩,⟨⟨i,⟨j,⟨k,_⟩⟩⟩,_⟩⟩:=c
 obtain ⟨a,b⟩:=Prod.mk.inj e
 refine xaQ (p:=xeE.pin) (xa1 mxTryz (inv0Ok Tryz.prog _) rfl xo6 Tryz.func80 rfl (by kernel_rfl) xn0 ((xrj _ _ _ _ _ _ _ (xaf (d:=false) a)).trans ?_))
 exact congrArg some b
def xAr:Env:=xDx.with 80 xmf
theorem xvo:OrcOk Tryz.prog ITryz xAr:=xAJ.with xrF
def xep:Env:=xAr.fn 32 0 (lsOf []) (lpsOf [])
theorem xqJ:OrcOk Tryz.prog (ITryz.at 0) xep:=xvo.fn
theorem xoJ:LoOk Tryz.prog (ITryz.at xep.pin) xep (loopAt Tryz.f79 0):=xaF (by kernel_rfl)
def xf1 (c b:LA) (a:Int):=xdo ((b.getD a.toNat .top).cells.getD 0 .top).toList ((b.getD a.toNat .top).cells.getD 1 .top).toInt ((b.getD a.toNat .top).cells.getD 2 .top).toInt ((c.getD a.toNat .top).cells.getD 0 .top).toList ((c.getD a.toNat .top).cells.getD 1 .top).toInt ((c.getD a.toNat .top).cells.getD 2 .top).toInt
def xeQ {T:Type} (c b:LA) (d a:Int) (δ:T) (κl:(Int)→T) (κr:(Bool×(Bool)×(Unit))→T):T:=br (decide (a<d)) (br (decide (0≤a)&&decide (a<b.length)) (br (decide (a.toNat<b.length)&&((b.getD a.toNat .top).cells.length==3&&hasShs [Sh.list 3,Sh.int .i64,Sh.int .i64] (b.getD a.toNat .top).cells 0)) (br (decide (0≤a)&&decide (a<c.length)) (br (decide (a.toNat<c.length)&&((c.getD a.toNat .top).cells.length==3&&hasShs [Sh.list 3,Sh.int .i64,Sh.int .i64] (c.getD a.toNat .top).cells 0)) (br ((xf1 c b a).isSome) (br (!(xf1 c b a).getD false) (κr (true,(false),())) (κl (i64.wrap (a+1)))) δ) δ) δ) δ) δ) (κr (false,false,()))
def xba (d a:LA) (b:Int):(Int)→Option ((Int)⊕(Bool×(Bool)×(Unit))):=fun (c)=>xeQ d a b c none (fun s=>some (.inl s)) (fun p=>some (.inr p))
def xdH (d a:LA) (b:Int):(Int)→LA×List Box:=fun (c)=>([AV.list 3 d,AV.func 80 [],AV.list 3 a,AV.int .i64 b,AV.int .i64 c],[])
def xc6 (c a:LA) (b:Int):(Bool×(Bool)×(Unit))→LR:=fun p=>(.node p.1 (.leaf .ret [AV.bool p.2.1] []) (.leaf (.exit 0) [.top] []))
abbrev xrw (a:LA) (H:List Box):=XR Tryz.prog xep [1,2,15,16,17] [6] [] (loopAt Tryz.f79 0) a H
theorem xrJ (c a:LA) (b d:Int):Enc (encR (xdH c a b) (xc6 c a b)) (xba c a b d) (xrw (xdH c a b d).1 (xdH c a b d).2):=by
 refine eV (xeQ c a b d none (fun s=>some (encR (xdH c a b) (xc6 c a b) (.inl s))) (fun p=>some (encR (xdH c a b) (xc6 c a b) (.inr p)))) (by kernel_rfl) ?_;unfold xba xeQ;repeat' first|exact eN|exact eS rfl|apply eB
def xlw:Lp:=lpOf [1,2,15,16,17] [6] [] (pCons (pList 3 pAny) (pCons (pFunc 80 pNil) (pCons (pList 3 pAny) (pCons (pInt .i64) (pCons (pInt .i64) pNil))))) pNil fun (d,(_,(a,(b,(c,_))))) _=>((Iter (xba d a b) (c)).isSome,xc6 d a b ((Iter (xba d a b) (c)).getD (false,false,())))
theorem xpT:LoopOk Tryz.prog (ITryz.at xep.pin) xep.nt (loopAt Tryz.f79 0) xlw:=xbr fun f h i g=>by
 obtain ⟨c,⟨_,⟨a,⟨b,⟨d,_⟩⟩⟩⟩⟩:=f
 obtain ⟨e,rfl⟩:=Prod.mk.inj g
 exact xaG mxTryz (inv0Ok Tryz.prog _) rfl xqJ xoJ (xdH c a b) (xc6 c a b) (fun p=>by simp only [xc6,LR.eval];first|(simp;done)|(repeat' split<;>simp)) (xrJ c a b) (s:=(d)) (xaf e)
def xfI:Env:=xAr.fn 32 0 (lsOf []) (lpsOf [(4,xlw)])
theorem xqC:OrcOk Tryz.prog (ITryz.at 0) xfI:=xvo.fn
theorem xpB:LoOk Tryz.prog (ITryz.at xfI.pin) xfI (Tryz.f79.body.getD .skip):=xa7 (ls:=[loopAt Tryz.f79 0]) (by kernel_rfl) (lkC xpT lkN)
def xh4 {T:Type} (a b:LA) (δ:T) (κ:Bool→T):T:=br ((↑a.length:Int) != (↑b.length:Int)) (κ (false)) (br ((Iter (xba b a (↑a.length:Int)) 0).isSome) (br (((Iter (xba b a (↑a.length:Int)) 0).getD (false,false,())).fst) (κ (((Iter (xba b a (↑a.length:Int)) 0).getD (false,false,())).snd.fst)) (κ (true))) δ)
def xeL (a b:LA):Option (Bool):=xh4 a b none some
theorem xtO (a b:LA):Enc (fun (p:Bool)=>((AV.bool p):AV)) (xeL a b) (XF Tryz.prog xfI Tryz.f79 (Tryz.f79.body.getD .skip) [AV.list 3 a,AV.list 3 b,AV.func (80:FuncId) []]):=by
 refine eV (xh4 a b none (fun (p:Bool)=>some ((AV.bool p):AV))) (by kernel_rfl) ?_;unfold xeL xh4;repeat' first|exact eN|exact eS rfl|apply eB
def xn4:LA→Option (Bool×AV):=ocOf (sCons (sList 3 pAny) (sCons (sList 3 pAny) (sCons (sEq (pFunc (80:FuncId) pNil)) sNil))) fun (a,(b,(_,_)))=>((xeL a b).isSome,(AV.bool ((xeL a b).getD false)))
theorem xs8:OcOk Tryz.prog ITryz 79 (xn4):=xbc fun f h g=>by
 obtain ⟨a,⟨b,⟨_,_⟩⟩⟩:=f
 obtain ⟨c,e⟩:=Prod.mk.inj g
 refine xaQ (p:=xfI.pin) (xa1 mxTryz (inv0Ok Tryz.prog _) rfl xqC Tryz.func79 rfl (by kernel_rfl) xpB ((xtO _ _ _ (xaf (d:=false) c)).trans ?_))
 exact congrArg some e
def xDe:Env:=xAr.with 79 xn4
theorem xAy:OrcOk Tryz.prog ITryz xDe:=xvo.with xs8
def xeN:Env:=xDe.fn 8 0 (lsOf []) (lpsOf [])
theorem xpp:OrcOk Tryz.prog (ITryz.at 0) xeN:=xAy.fn
theorem xoE:LoOk Tryz.prog (ITryz.at xeN.pin) xeN (Tryz.f51.body.getD .skip):=xaF (by kernel_rfl)
def xgO {T:Type} (a b:LA) (δ:T) (κ:Bool→T):T:=br ((xeL a b).isSome) (κ ((xeL a b).getD false)) δ
def xcx (a b:LA):Option (Bool):=xgO a b none some
theorem xr4 (a b:LA):Enc (fun (p:Bool)=>((AV.bool p):AV)) (xcx a b) (XF Tryz.prog xeN Tryz.f51 (Tryz.f51.body.getD .skip) [AV.list 3 a,AV.list 3 b]):=by
 refine eV (xgO a b none (fun (p:Bool)=>some ((AV.bool p):AV))) (by kernel_rfl) ?_;unfold xcx xgO;repeat' first|exact eN|exact eS rfl|apply eB
def xmx:LA→Option (Bool×AV):=ocOf (sCons (sList 3 pAny) (sCons (sList 3 pAny) sNil)) fun (a,(b,_))=>((xcx a b).isSome,(AV.bool ((xcx a b).getD false)))
theorem xse:OcOk Tryz.prog ITryz 51 (xmx):=xbc fun f h g=>by
 obtain ⟨a,⟨b,_⟩⟩:=f
 obtain ⟨c,e⟩:=Prod.mk.inj g
 refine xaQ (p:=xeN.pin) (xa1 mxTryz (inv0Ok Tryz.prog _) rfl xpp Tryz.func51 rfl (by kernel_rfl) xoE ((xr4 _ _ _ (xaf (d:=false) c)).trans ?_))
 exact congrArg some e
def xEg:Env:=xDe.with 51 xmx
theorem xAF:OrcOk Tryz.prog ITryz xEg:=xAy.with xse
def xeS:Env:=xEg.fn 7 0 (lsOf []) (lpsOf [])
theorem xpm:OrcOk Tryz.prog (ITryz.at 0) xeS:=xAF.fn
theorem xoK:LoOk Tryz.prog (ITryz.at xeS.pin) xeS (Tryz.f18.body.getD .skip):=xaF (by kernel_rfl)
def xgQ {T:Type} (l:LA) (δ:T) (κ:Bool→T):T:=br ((xdc l).isSome) (br ((xcx l ((xdc l).getD [])).isSome) (κ ((xcx l ((xdc l).getD [])).getD false)) δ) δ
def xdQ (l:LA):Option (Bool):=xgQ l none some
theorem xsv (l:LA):Enc (fun (p:Bool)=>((AV.bool p):AV)) (xdQ l) (XF Tryz.prog xeS Tryz.f18 (Tryz.f18.body.getD .skip) [AV.list 3 l]):=by
 refine eV (xgQ l none (fun (p:Bool)=>some ((AV.bool p):AV))) (by kernel_rfl) ?_;unfold xdQ xgQ;repeat' first|exact eN|exact eS rfl|apply eB
def xne:LA→Option (Bool×AV):=ocOf (sCons (sList 3 pAny) sNil) fun (l,_)=>((xdQ l).isSome,(AV.bool ((xdQ l).getD false)))
theorem xr2:OcOk Tryz.prog ITryz 18 (xne):=xbc fun c f e=>by
 obtain ⟨l,_⟩:=c
 obtain ⟨a,b⟩:=Prod.mk.inj e
 refine xaQ (p:=xeS.pin) (xa1 mxTryz (inv0Ok Tryz.prog _) rfl xpm Tryz.func18 rfl (by kernel_rfl) xoK ((xsv _ _ (xaf (d:=false) a)).trans ?_))
 exact congrArg some b
def xFb:Env:=xEg.with 18 xne
theorem xFc:OrcOk Tryz.prog ITryz xFb:=xAF.with xr2
abbrev xEE:Env:=xFb
theorem xFK:OrcOk Tryz.prog ITryz xEE:=xFc
abbrev xEx:Env:=xEE
theorem xF2:OrcOk Tryz.prog ITryz xEx:=xFK
abbrev xEJ:Env:=xEx
theorem xET:OrcOk Tryz.prog ITryz xEJ:=xF2
abbrev xFH:Env:=xEJ
theorem xEp:OrcOk Tryz.prog ITryz xFH:=xET
abbrev EKQ:Env:=xFH
theorem xEs:OrcOk Tryz.prog ITryz EKQ:=xEp
end Go.Sim.M
end
noncomputable section
set_option maxRecDepth 100000
namespace Go.Sim.M
open Go.IntKind (i64 u64 u8)
open Go.RowKit Go.Proofs
def xhQ:Env:=EKQ.fn 7 0 (lsOf []) (lpsOf [])
theorem xvO:OrcOk Tryz.prog (ITryz.at 0) xhQ:=xEs.fn
theorem xt9:LoOk Tryz.prog (ITryz.at xhQ.pin) xhQ (Tryz.f89.body.getD .skip):=xaF (by kernel_rfl)
def xf0 (b a:Bool):Int:=(br (b) (((-1))) (br (a) ((1)) ((0))))
def xrO (b a:Bool):Bool:=true
def xtD {T:Type} (b a:Bool) (δ:T) (κ:Int→T):T:=br (b) (κ ((-1))) (br (a) (κ (1)) (κ (0)))
theorem xA8 (b a:Bool):Pre (xrO b a) (XF Tryz.prog xhQ Tryz.f89 (Tryz.f89.body.getD .skip) [AV.bool b,AV.bool a]) (AV.int .i64 (xf0 b a)):=by
 have h:XF Tryz.prog xhQ Tryz.f89 (Tryz.f89.body.getD .skip) [AV.bool b,AV.bool a]=xtD b a none (fun (p:Int)=>some ((AV.int .i64 p):AV)):=by kernel_rfl
 rw [h];unfold xf0 xrO xtD;repeat' (first|exact Pre.none|exact Pre.tt rfl|exact Pre.some rfl|refine Pre.l ?_|refine Pre.r ?_|refine Pre.br (f:=fun (p:Int)=>((AV.int .i64 p):AV)) ?_ ?_|refine Pre.brt (f:=fun (p:Int)=>((AV.int .i64 p):AV)) ?_ ?_)
def xtS:LA→Option (Bool×AV):=ocOf (sCons (sEq pBool) (sCons (sEq pBool) sNil)) fun (b,(a,_))=>(true,(AV.int .i64 (xf0 b a)))
theorem xAB:OcOk Tryz.prog ITryz 89 (xtS):=xbc fun c g d=>by
 obtain ⟨e,⟨a,_⟩⟩:=c
 obtain ⟨f,b⟩:=Prod.mk.inj d
 refine xaQ (p:=xhQ.pin) (xa1 mxTryz (inv0Ok Tryz.prog _) rfl xvO Tryz.func89 rfl (by kernel_rfl) xt9 ((Pre.get (xA8 _ _) rfl).trans ?_))
 exact congrArg some b
def xBO:Env:=EKQ.with 89 xtS
theorem xzV:OrcOk Tryz.prog ITryz xBO:=xEs.with xAB
def xfQ:Env:=xBO.fn 48 0 (lsOf []) (lpsOf [])
theorem xsR:OrcOk Tryz.prog (ITryz.at 0) xfQ:=xzV.fn
theorem xrm:LoOk Tryz.prog (ITryz.at xfQ.pin) xfQ (Tryz.f64.body.getD .skip):=xaF (by kernel_rfl)
def xgD (a b:Int) (c:List UInt8) (d e:Int) (f:List UInt8):Int:=(br (a != d) ((xf0 (decide (a<d)) (decide (a>d)))) (br (b != e) ((xf0 (decide (b<e)) (decide (b>e)))) ((xf0 (Op.bytesLess c f) !(Op.bytesLess c f || c==f)))))
def xoT (a b:Int) (c:List UInt8) (d e:Int) (f:List UInt8):Bool:=true
def xp4 {T:Type} (a b:Int) (c:List UInt8) (d e:Int) (f:List UInt8) (δ:T) (κ:Int→T):T:=br (a != d) (κ (xf0 (decide (a<d)) (decide (a>d)))) (br (b != e) (κ (xf0 (decide (b<e)) (decide (b>e)))) (κ (xf0 (Op.bytesLess c f) !(Op.bytesLess c f || c==f))))
theorem xwd (a b:Int) (c:List UInt8) (d e:Int) (g:List UInt8):Pre (xoT a b c d e g) (XF Tryz.prog xfQ Tryz.f64 (Tryz.f64.body.getD .skip) [AV.agg [AV.int .i64 a,AV.int .i64 b,AV.str c],AV.agg [AV.int .i64 d,AV.int .i64 e,AV.str g]]) (AV.int .i64 (xgD a b c d e g)):=by
 have h:XF Tryz.prog xfQ Tryz.f64 (Tryz.f64.body.getD .skip) [AV.agg [AV.int .i64 a,AV.int .i64 b,AV.str c],AV.agg [AV.int .i64 d,AV.int .i64 e,AV.str g]]=xp4 a b c d e g none (fun (p:Int)=>some ((AV.int .i64 p):AV)):=by kernel_rfl
 rw [h];unfold xgD xoT xp4;repeat' (first|exact Pre.none|exact Pre.tt rfl|exact Pre.some rfl|refine Pre.l ?_|refine Pre.r ?_|refine Pre.br (f:=fun (p:Int)=>((AV.int .i64 p):AV)) ?_ ?_|refine Pre.brt (f:=fun (p:Int)=>((AV.int .i64 p):AV)) ?_ ?_)
def xqp:LA→Option (Bool×AV):=ocOf (sCons (sAgg (sCons (sEq (pInt .i64)) (sCons (sEq (pInt .i64)) (sCons (sEq pStr) sNil)))) (sCons (sAgg (sCons (sEq (pInt .i64)) (sCons (sEq (pInt .i64)) (sCons (sEq pStr) sNil)))) sNil)) fun ((a,(b,(c,_))),((d,(e,(f,_))),_))=>(true,(AV.int .i64 (xgD a b c d e f)))
theorem xwr:OcOk Tryz.prog ITryz 64 (xqp):=xbc fun b k c=>by
 obtain ⟨⟨d,⟨e,⟨f,_⟩⟩⟩,⟨⟨g,⟨h,⟨i,_⟩⟩⟩,_⟩⟩:=b
 obtain ⟨j,a⟩:=Prod.mk.inj c
 refine xaQ (p:=xfQ.pin) (xa1 mxTryz (inv0Ok Tryz.prog _) rfl xsR Tryz.func64 rfl (by kernel_rfl) xrm ((Pre.get (xwd _ _ _ _ _ _) rfl).trans ?_))
 exact congrArg some a
def xwW:Env:=xBO.with 64 xqp
theorem xtJ:OrcOk Tryz.prog ITryz xwW:=xzV.with xwr
def xfN:Env:=xwW.fn 41 0 (lsOf []) (lpsOf [])
theorem xsS:OrcOk Tryz.prog (ITryz.at 0) xfN:=xtJ.fn
theorem xpR:LoOk Tryz.prog (ITryz.at xfN.pin) xfN (loopAt Tryz.f30 0):=xaF (by kernel_rfl)
def xeC (a b:LA) (i:Int):=xgD ((a.getD i.toNat .top).cells.getD 0 .top).toInt ((a.getD i.toNat .top).cells.getD 1 .top).toInt ((a.getD i.toNat .top).cells.getD 2 .top).toStr ((b.getD i.toNat .top).cells.getD 0 .top).toInt ((b.getD i.toNat .top).cells.getD 1 .top).toInt ((b.getD i.toNat .top).cells.getD 2 .top).toStr
def xdU {T:Type} (a b:LA) (i:Int) (δ:T) (κl:(Int)→T) (κr:(Bool×(Int)×(Unit))→T):T:=br (decide (i<a.length)) (br (decide (i<b.length)) (br (decide (0≤i)&&decide (i<a.length)) (br (decide (i.toNat<a.length)&&((a.getD i.toNat .top).cells.length==3&&hasShs [Sh.int .i64,Sh.int .i64,Sh.str] (a.getD i.toNat .top).cells 0)) (br (decide (0≤i)&&decide (i<b.length)) (br (decide (i.toNat<b.length)&&((b.getD i.toNat .top).cells.length==3&&hasShs [Sh.int .i64,Sh.int .i64,Sh.str] (b.getD i.toNat .top).cells 0)) (br (xeC a b i != 0) (κr (true,(xeC a b i),())) (κl (i64.wrap (i+1)))) δ) δ) δ) δ) (κr (false,0,()))) (κr (false,0,()))
def xa3 (a b:LA):(Int)→Option ((Int)⊕(Bool×(Int)×(Unit))):=fun (i)=>xdU a b i none (fun s=>some (.inl s)) (fun p=>some (.inr p))
def xeY (a b:LA):(Int)→LA×List Box:=fun (i)=>([AV.list 3 a,AV.list 3 b,AV.int .i64 i],[])
def xec (a b:LA):(Bool×(Int)×(Unit))→LR:=fun p=>(.node p.1 (.leaf .ret [AV.list 3 a,AV.list 3 b,AV.int .i64 p.2.1] []) (.leaf (.exit 0) [AV.list 3 a,AV.list 3 b,.top] []))
abbrev xt5 (a:LA) (H:List Box):=XR Tryz.prog xfN [0,1,5] [0,1,4] [] (loopAt Tryz.f30 0) a H
theorem xtF (a b:LA) (i:Int):Enc (encR (xeY a b) (xec a b)) (xa3 a b i) (xt5 (xeY a b i).1 (xeY a b i).2):=by
 refine eV (xdU a b i none (fun s=>some (encR (xeY a b) (xec a b) (.inl s))) (fun p=>some (encR (xeY a b) (xec a b) (.inr p)))) (by kernel_rfl) ?_;unfold xa3 xdU;repeat' first|exact eN|exact eS rfl|apply eB
def xnA:Lp:=lpOf [0,1,5] [0,1,4] [] (pCons (pList 3 pAny) (pCons (pList 3 pAny) (pCons (pInt .i64) pNil))) pNil fun (a,(b,(i,_))) _=>((Iter (xa3 a b) (i)).isSome,xec a b ((Iter (xa3 a b) (i)).getD (false,0,())))
theorem xsd:LoopOk Tryz.prog (ITryz.at xfN.pin) xfN.nt (loopAt Tryz.f30 0) xnA:=xbr fun d f g e=>by
 obtain ⟨a,⟨b,⟨i,_⟩⟩⟩:=d
 obtain ⟨c,rfl⟩:=Prod.mk.inj e
 exact xaG mxTryz (inv0Ok Tryz.prog _) rfl xsS xpR (xeY a b) (xec a b) (fun p=>by simp only [xec,LR.eval];first|(simp;done)|(repeat' split<;>simp)) (xtF a b) (s:=(i)) (xaf c)
def xhp:Env:=xwW.fn 41 0 (lsOf []) (lpsOf [(2,xnA)])
theorem xs0:OrcOk Tryz.prog (ITryz.at 0) xhp:=xtJ.fn
theorem xrD:LoOk Tryz.prog (ITryz.at xhp.pin) xhp (Tryz.f30.body.getD .skip):=xa7 (ls:=[loopAt Tryz.f30 0]) (by kernel_rfl) (lkC xsd lkN)
def xjT {T:Type} (a b:LA) (δ:T) (κ:Int→T):T:=br ((Iter (xa3 a b) 0).isSome) (br (((Iter (xa3 a b) 0).getD (false,0,())).fst) (κ (((Iter (xa3 a b) 0).getD (false,0,())).snd.fst)) (br (decide ((↑a.length:Int)<(↑b.length:Int))) (κ ((-1))) (br (decide ((↑a.length:Int)>(↑b.length:Int))) (κ (1)) (κ (0))))) δ
def xft (a b:LA):Option (Int):=xjT a b none some
theorem xw8 (a b:LA):Enc (fun (p:Int)=>((AV.int .i64 p):AV)) (xft a b) (XF Tryz.prog xhp Tryz.f30 (Tryz.f30.body.getD .skip) [AV.list 3 a,AV.list 3 b]):=by
 refine eV (xjT a b none (fun (p:Int)=>some ((AV.int .i64 p):AV))) (by kernel_rfl) ?_;unfold xft xjT;repeat' first|exact eN|exact eS rfl|apply eB
def xp5:LA→Option (Bool×AV):=ocOf (sCons (sList 3 pAny) (sCons (sList 3 pAny) sNil)) fun (a,(b,_))=>((xft a b).isSome,(AV.int .i64 ((xft a b).getD 0)))
theorem xwt:OcOk Tryz.prog ITryz 30 (xp5):=xbc fun f h g=>by
 obtain ⟨a,⟨b,_⟩⟩:=f
 obtain ⟨c,e⟩:=Prod.mk.inj g
 refine xaQ (p:=xhp.pin) (xa1 mxTryz (inv0Ok Tryz.prog _) rfl xs0 Tryz.func30 rfl (by kernel_rfl) xrD ((xw8 _ _ _ (xaf (d:=0) c)).trans ?_))
 exact congrArg some e
def xFZ:Env:=xwW.with 30 xp5
theorem xEG:OrcOk Tryz.prog ITryz xFZ:=xtJ.with xwt
abbrev xwz:Env:=xFZ
theorem xtl:OrcOk Tryz.prog ITryz xwz:=xEG
def xeO:Env:=xwz.fn 42 0 (lsOf []) (lpsOf [])
theorem xrH:OrcOk Tryz.prog (ITryz.at 0) xeO:=xtl.fn
theorem xoU:LoOk Tryz.prog (ITryz.at xeO.pin) xeO (loopAt Tryz.f13 0):=xaF (by kernel_rfl)
def xfd {T:Type} (a b:LA) (i:Int) (δ:T) (κl:(Int)→T) (κr:(Bool×(Bool)×(Unit))→T):T:=br (decide (i<a.length)) (br (decide (0≤i)&&decide (i<a.length)) (br (decide (i.toNat<a.length)&&((a.getD i.toNat .top).cells.length==3&&hasShs [Sh.int .i64,Sh.int .i64] (a.getD i.toNat .top).cells 1)) (br (decide (0≤i)&&decide (i<b.length)) (br (decide (i.toNat<b.length)&&((b.getD i.toNat .top).cells.length==3&&hasShs [Sh.int .i64,Sh.int .i64] (b.getD i.toNat .top).cells 1)) (br (!(((a.getD i.toNat .top).cells.getD 1 .top).toInt==((b.getD i.toNat .top).cells.getD 1 .top).toInt&&(((a.getD i.toNat .top).cells.getD 2 .top).toInt==((b.getD i.toNat .top).cells.getD 2 .top).toInt&&true))) (κr (true,(false),())) (br (decide (0≤i)&&decide (i<a.length)) (br (decide (i.toNat<a.length)&&hasSh1 (Sh.list 3) ((a.getD i.toNat .top).cells.getD 0 .top)) (br (decide (0≤i)&&decide (i<b.length)) (br (decide (i.toNat<b.length)&&hasSh1 (Sh.list 3) ((b.getD i.toNat .top).cells.getD 0 .top)) (br ((xft ((a.getD i.toNat .top).cells.getD 0 .top).toList ((b.getD i.toNat .top).cells.getD 0 .top).toList).isSome) (br ((xft ((a.getD i.toNat .top).cells.getD 0 .top).toList ((b.getD i.toNat .top).cells.getD 0 .top).toList).getD 0 != 0) (κr (true,(false),())) (κl (i64.wrap (i+1)))) δ) δ) δ) δ) δ)) δ) δ) δ) δ) (κr (false,false,()))
def xbe (a b:LA):(Int)→Option ((Int)⊕(Bool×(Bool)×(Unit))):=fun (i)=>xfd a b i none (fun s=>some (.inl s)) (fun p=>some (.inr p))
def xd3 (a b:LA):(Int)→LA×List Box:=fun (i)=>([AV.list 3 a,AV.list 3 b,AV.int .i64 i],[])
def xdl (a b:LA):(Bool×(Bool)×(Unit))→LR:=fun p=>(.node p.1 (.leaf .ret [AV.bool p.2.1] []) (.leaf (.exit 0) [.top] []))
abbrev xr5 (a:LA) (H:List Box):=XR Tryz.prog xeO [0,1,5] [4] [] (loopAt Tryz.f13 0) a H
theorem xrX (a b:LA) (i:Int):Enc (encR (xd3 a b) (xdl a b)) (xbe a b i) (xr5 (xd3 a b i).1 (xd3 a b i).2):=by
 refine eV (xfd a b i none (fun s=>some (encR (xd3 a b) (xdl a b) (.inl s))) (fun p=>some (encR (xd3 a b) (xdl a b) (.inr p)))) (by kernel_rfl) ?_;unfold xbe xfd;repeat' first|exact eN|exact eS rfl|apply eB
def xmc:Lp:=lpOf [0,1,5] [4] [] (pCons (pList 3 pAny) (pCons (pList 3 pAny) (pCons (pInt .i64) pNil))) pNil fun (a,(b,(i,_))) _=>((Iter (xbe a b) (i)).isSome,xdl a b ((Iter (xbe a b) (i)).getD (false,false,())))
theorem xqx:LoopOk Tryz.prog (ITryz.at xeO.pin) xeO.nt (loopAt Tryz.f13 0) xmc:=xbr fun d f g e=>by
 obtain ⟨a,⟨b,⟨i,_⟩⟩⟩:=d
 obtain ⟨c,rfl⟩:=Prod.mk.inj e
 exact xaG mxTryz (inv0Ok Tryz.prog _) rfl xrH xoU (xd3 a b) (xdl a b) (fun p=>by simp only [xdl,LR.eval];first|(simp;done)|(repeat' split<;>simp)) (xrX a b) (s:=(i)) (xaf c)
def xga:Env:=xwz.fn 42 0 (lsOf []) (lpsOf [(4,xmc)])
theorem xrp:OrcOk Tryz.prog (ITryz.at 0) xga:=xtl.fn
theorem xpV:LoOk Tryz.prog (ITryz.at xga.pin) xga (Tryz.f13.body.getD .skip):=xa7 (ls:=[loopAt Tryz.f13 0]) (by kernel_rfl) (lkC xqx lkN)
def xiM {T:Type} (a b:LA) (δ:T) (κ:Bool→T):T:=br ((↑a.length:Int) != (↑b.length:Int)) (κ (false)) (br ((Iter (xbe a b) 0).isSome) (br (((Iter (xbe a b) 0).getD (false,false,())).fst) (κ (((Iter (xbe a b) 0).getD (false,false,())).snd.fst)) (κ (true))) δ)
def xel (a b:LA):Option (Bool):=xiM a b none some
theorem xum (a b:LA):Enc (fun (p:Bool)=>((AV.bool p):AV)) (xel a b) (XF Tryz.prog xga Tryz.f13 (Tryz.f13.body.getD .skip) [AV.list 3 a,AV.list 3 b]):=by
 refine eV (xiM a b none (fun (p:Bool)=>some ((AV.bool p):AV))) (by kernel_rfl) ?_;unfold xel xiM;repeat' first|exact eN|exact eS rfl|apply eB
def xoR:LA→Option (Bool×AV):=ocOf (sCons (sList 3 pAny) (sCons (sList 3 pAny) sNil)) fun (a,(b,_))=>((xel a b).isSome,(AV.bool ((xel a b).getD false)))
theorem xuy:OcOk Tryz.prog ITryz 13 (xoR):=xbc fun f h g=>by
 obtain ⟨a,⟨b,_⟩⟩:=f
 obtain ⟨c,e⟩:=Prod.mk.inj g
 refine xaQ (p:=xga.pin) (xa1 mxTryz (inv0Ok Tryz.prog _) rfl xrp Tryz.func13 rfl (by kernel_rfl) xpV ((xum _ _ _ (xaf (d:=false) c)).trans ?_))
 exact congrArg some e
def xGi:Env:=xwz.with 13 xoR
theorem xEo:OrcOk Tryz.prog ITryz xGi:=xtl.with xuy
abbrev xF6:Env:=xGi
theorem xEZ:OrcOk Tryz.prog ITryz xF6:=xEo
abbrev xBb:Env:=xF6
theorem xzj:OrcOk Tryz.prog ITryz xBb:=xEZ
def xg8:Env:=xBb.fn 18 0 (lsOf []) (lpsOf [])
theorem xur:OrcOk Tryz.prog (ITryz.at 0) xg8:=xzj.fn
theorem xsZ:LoOk Tryz.prog (ITryz.at xg8.pin) xg8 (Tryz.f56.body.getD .skip):=xaF (by kernel_rfl)
def xiz (a b:Int):Bool:=(br (decide (a≥0)) (br (decide (a<b)) ((decide (b≤1099511627776))) ((false))) ((false)))
def xqA (a b:Int):Bool:=true
def xsK {T:Type} (a b:Int) (δ:T) (κ:Bool→T):T:=br (decide (a≥0)) (br (decide (a<b)) (κ (decide (b≤1099511627776))) (κ (false))) (κ (false))
theorem xAc (a b:Int):Pre (xqA a b) (XF Tryz.prog xg8 Tryz.f56 (Tryz.f56.body.getD .skip) [AV.agg [AV.int .i64 a,AV.int .i64 b]]) (AV.bool (xiz a b)):=by
 have h:XF Tryz.prog xg8 Tryz.f56 (Tryz.f56.body.getD .skip) [AV.agg [AV.int .i64 a,AV.int .i64 b]]=xsK a b none (fun (p:Bool)=>some ((AV.bool p):AV)):=by kernel_rfl
 rw [h];unfold xiz xqA xsK;repeat' (first|exact Pre.none|exact Pre.tt rfl|exact Pre.some rfl|refine Pre.l ?_|refine Pre.r ?_|refine Pre.br (f:=fun (p:Bool)=>((AV.bool p):AV)) ?_ ?_|refine Pre.brt (f:=fun (p:Bool)=>((AV.bool p):AV)) ?_ ?_)
def xsF:LA→Option (Bool×AV):=ocOf (sCons (sAgg (sCons (sEq (pInt .i64)) (sCons (sEq (pInt .i64)) sNil))) sNil) fun ((a,(b,_)),_)=>(true,(AV.bool (xiz a b)))
theorem xAd:OcOk Tryz.prog ITryz 56 (xsF):=xbc fun b g c=>by
 obtain ⟨⟨d,⟨e,_⟩⟩,_⟩:=b
 obtain ⟨f,a⟩:=Prod.mk.inj c
 refine xaQ (p:=xg8.pin) (xa1 mxTryz (inv0Ok Tryz.prog _) rfl xur Tryz.func56 rfl (by kernel_rfl) xsZ ((Pre.get (xAc _ _) rfl).trans ?_))
 exact congrArg some a
def xA3:Env:=xBb.with 56 xsF
theorem xzL:OrcOk Tryz.prog ITryz xA3:=xzj.with xAd
def xfl:Env:=xA3.fn 19 0 (lsOf []) (lpsOf [])
theorem xr3:OrcOk Tryz.prog (ITryz.at 0) xfl:=xzL.fn
theorem xq7:LoOk Tryz.prog (ITryz.at xfl.pin) xfl (Tryz.f26.body.getD .skip):=xaF (by kernel_rfl)
def xg4 (a b t:Int):Bool:=(br (xiz a b) (br (decide (a≤t)) ((decide (t<b))) ((false))) ((false)))
def xn2 (a b t:Int):Bool:=true
def xpi {T:Type} (a b t:Int) (δ:T) (κ:Bool→T):T:=br (xiz a b) (br (decide (a≤t)) (κ (decide (t<b))) (κ (false))) (κ (false))
theorem xvT (a b t:Int):Pre (xn2 a b t) (XF Tryz.prog xfl Tryz.f26 (Tryz.f26.body.getD .skip) [AV.agg [AV.int .i64 a,AV.int .i64 b],AV.int .i64 t]) (AV.bool (xg4 a b t)):=by
 have h:XF Tryz.prog xfl Tryz.f26 (Tryz.f26.body.getD .skip) [AV.agg [AV.int .i64 a,AV.int .i64 b],AV.int .i64 t]=xpi a b t none (fun (p:Bool)=>some ((AV.bool p):AV)):=by kernel_rfl
 rw [h];unfold xg4 xn2 xpi;repeat' (first|exact Pre.none|exact Pre.tt rfl|exact Pre.some rfl|refine Pre.l ?_|refine Pre.r ?_|refine Pre.br (f:=fun (p:Bool)=>((AV.bool p):AV)) ?_ ?_|refine Pre.brt (f:=fun (p:Bool)=>((AV.bool p):AV)) ?_ ?_)
def xpv:LA→Option (Bool×AV):=ocOf (sCons (sAgg (sCons (sEq (pInt .i64)) (sCons (sEq (pInt .i64)) sNil))) (sCons (sEq (pInt .i64)) sNil)) fun ((a,(b,_)),(t,_))=>(true,(AV.bool (xg4 a b t)))
theorem xvC:OcOk Tryz.prog ITryz 26 (xpv):=xbc fun b g c=>by
 obtain ⟨⟨d,⟨e,_⟩⟩,⟨t,_⟩⟩:=b
 obtain ⟨f,a⟩:=Prod.mk.inj c
 refine xaQ (p:=xfl.pin) (xa1 mxTryz (inv0Ok Tryz.prog _) rfl xr3 Tryz.func26 rfl (by kernel_rfl) xq7 ((Pre.get (xvT _ _ _) rfl).trans ?_))
 exact congrArg some a
def xGc:Env:=xA3.with 26 xpv
theorem xEn:OrcOk Tryz.prog ITryz xGc:=xzL.with xvC
abbrev xCG:Env:=xGc
theorem xEe:OrcOk Tryz.prog ITryz xCG:=xEn
abbrev xCR:Env:=xCG
theorem xDY:OrcOk Tryz.prog ITryz xCR:=xEe
abbrev xCZ:Env:=xCR
theorem xDq:OrcOk Tryz.prog ITryz xCZ:=xDY
abbrev xCw:Env:=xCZ
theorem xD6:OrcOk Tryz.prog ITryz xCw:=xDq
abbrev xC1:Env:=xCw
theorem xDi:OrcOk Tryz.prog ITryz xC1:=xD6
abbrev xCC:Env:=xC1
theorem xDF:OrcOk Tryz.prog ITryz xCC:=xDi
abbrev xC6:Env:=xCC
theorem xDV:OrcOk Tryz.prog ITryz xC6:=xDF
abbrev xC2:Env:=xC6
theorem xDZ:OrcOk Tryz.prog ITryz xC2:=xDV
abbrev xCW:Env:=xC2
theorem xDv:OrcOk Tryz.prog ITryz xCW:=xDZ
abbrev xCM:Env:=xCW
theorem xDT:OrcOk Tryz.prog ITryz xCM:=xDv
abbrev xCE:Env:=xCM
theorem xDk:OrcOk Tryz.prog ITryz xCE:=xDT
abbrev xCL:Env:=xCE
theorem xEj:OrcOk Tryz.prog ITryz xCL:=xDk
abbrev xCu:Env:=xCL
theorem xD1:OrcOk Tryz.prog ITryz xCu:=xEj
abbrev EKR1:Env:=xCu
theorem xIR:OrcOk Tryz.prog ITryz EKR1:=xD1
end Go.Sim.M
end
noncomputable section
set_option maxRecDepth 100000
namespace Go.Sim.M
open Go.IntKind (i64 u64 u8)
open Go.RowKit Go.Proofs
abbrev xH4:Env:=EKR1
theorem xHo:OrcOk Tryz.prog ITryz xH4:=xIR
abbrev EKJ:Env:=xH4
theorem xJv:OrcOk Tryz.prog ITryz EKJ:=xHo
end Go.Sim.M
end
noncomputable section
set_option maxRecDepth 100000
namespace Go.Sim.M
open Go.IntKind (i64 u64 u8)
open Go.RowKit Go.Proofs
abbrev xFz:Env:=EKJ
theorem xGa:OrcOk Tryz.prog ITryz xFz:=xJv
abbrev xGb:Env:=xFz
theorem xEH:OrcOk Tryz.prog ITryz xGb:=xGa
def xnX {T:Type} (k:Nat) (b n:Int) (a:LA) (δ:T) (κ:Bool×(Nat×LA)×(Nat×LA)→T):T:=br (decide ((↑k:Int)>0)) (br (decide (0≤i64.wrap ((↑k:Int) - 1))&&decide (i64.wrap ((↑k:Int) - 1)<(↑k:Int))) (br (decide (0+(i64.wrap ((↑k:Int) - 1)).toNat<a.length)&&hasSh1 (Sh.int .i64) ((a.getD (0+(i64.wrap ((↑k:Int) - 1)).toNat) .top).cells.getD 1 .top)) (br (((a.getD (0+(i64.wrap ((↑k:Int) - 1)).toNat) .top).cells.getD 1 .top).toInt==n) (κ (true,(k,a),(0,[]))) (br (k==a.length&&(decide ((k+1)*16≤140737488355328)&&decide (k+1≤4611686018427387904))) (κ (false,(0,[]),(k+1,a++[AV.agg [AV.int .i64 b,AV.int .i64 n]]))) δ)) δ) δ) (br (k==a.length&&(decide ((k+1)*16≤140737488355328)&&decide (k+1≤4611686018427387904))) (κ (false,(0,[]),(k+1,a++[AV.agg [AV.int .i64 b,AV.int .i64 n]]))) δ)
def xp8 (k:Nat) (a n:Int) (b:LA):Option (Bool×(Nat×LA)×(Nat×LA)):=xnX k a n b none some
abbrev xE7:Env:=xGb
theorem xED:OrcOk Tryz.prog ITryz xE7:=xEH
abbrev xF3:Env:=xE7
theorem xGl:OrcOk Tryz.prog ITryz xF3:=xED
abbrev xFB:Env:=xF3
theorem xGv:OrcOk Tryz.prog ITryz xFB:=xGl
abbrev xFd:Env:=xFB
theorem xEv:OrcOk Tryz.prog ITryz xFd:=xGv
abbrev xE0:Env:=xFd
theorem xGw:OrcOk Tryz.prog ITryz xE0:=xEv
abbrev xEN:Env:=xE0
theorem xEK:OrcOk Tryz.prog ITryz xEN:=xGw
abbrev xFU:Env:=xEN
theorem xEV:OrcOk Tryz.prog ITryz xFU:=xEK
abbrev EKR2:Env:=xFU
theorem xIf:OrcOk Tryz.prog ITryz EKR2:=xEV
end Go.Sim.M
end
noncomputable section
set_option maxRecDepth 100000
namespace Go.Sim.M
open Go.IntKind (i64 u64 u8)
open Go.RowKit Go.Proofs
abbrev xFj:Env:=EKR2
theorem xGh:OrcOk Tryz.prog ITryz xFj:=xIf
abbrev xGm:Env:=xFj
theorem xFt:OrcOk Tryz.prog ITryz xGm:=xGh
abbrev xE5:Env:=xGm
theorem xFr:OrcOk Tryz.prog ITryz xE5:=xFt
abbrev xFM:Env:=xE5
theorem xFe:OrcOk Tryz.prog ITryz xFM:=xFr
abbrev xES:Env:=xFM
theorem xFm:OrcOk Tryz.prog ITryz xES:=xFe
abbrev xGu:Env:=xES
theorem xF9:OrcOk Tryz.prog ITryz xGu:=xFm
abbrev xGq:Env:=xGu
theorem xEF:OrcOk Tryz.prog ITryz xGq:=xF9
abbrev xGp:Env:=xGq
theorem xFf:OrcOk Tryz.prog ITryz xGp:=xEF
abbrev xEW:Env:=xGp
theorem xFV:OrcOk Tryz.prog ITryz xEW:=xFf
abbrev xCI:Env:=xEW
theorem xDs:OrcOk Tryz.prog ITryz xCI:=xFV
abbrev EKR3:Env:=xCI
theorem xII:OrcOk Tryz.prog ITryz EKR3:=xDs
end Go.Sim.M
end
noncomputable section
set_option maxRecDepth 100000
namespace Go.Sim
def stepX (P:Program) (E:Env) (live liveO:List Nat) (conv:List (Nat×Nat×TypeId)) (c:Code) (s:List AV×List Box):Option ((List AV×List Box)⊕{r:Exit×List AV×List Box // r.1≠.normal}) :=
 match XR P E live liveO conv c s.1 s.2 with
 | some (.normal,v,H)=>some (.inl (v,H))
 | some (.exit i,v,H)=>some (.inr ⟨(.exit i,v,H),by simp⟩)
 | some (.ret,v,H)=>some (.inr ⟨(.ret,v,H),by simp⟩)
 | _=>none
def closedLp (P:Program) (E:Env) (live liveO:List Nat) (conv:List (Nat×Nat×TypeId)) (c:Code) (n:Nat):Lp:=⟨live,liveO,conv,fun vals H =>
 match iterN (stepX P E live liveO conv c) n (vals,H) with
 | some r=>some (true,.leaf r.1.1 r.1.2.1 r.1.2.2)
 | none=>none⟩
theorem xCj {P:Program} {Inv:IV} {E:Env} (hmx:P.follows .mixedOrders=true) (hIo:InvOk Inv) (hpin:Inv.pin=E.pin) (hor:OrcOk P Inv E) {c:Code} (hlo:LoOk P Inv E c) {live liveO:List Nat} {conv:List (Nat×Nat×TypeId)} {n:Nat} :
  LoopOk P Inv E.nt c (closedLp P E live liveO conv c n):=fun vals H r h=>by
 simp only [closedLp] at h
 split at h
 case h_2=>simp at h
 rename_i r0 hr
 simp only [Option.some.injEq,Prod.mk.injEq,true_and] at h
 subst h
 exact xaG hmx hIo hpin hor hlo (σ:=List AV×List Box) (ρ:={r:Exit×List AV×List Box // r.1≠.normal}) (step:=stepX P E live liveO conv c) (fun s=>s) (fun r=>.leaf r.1.1 r.1.2.1 r.1.2.2) (fun r=>r.2)
  (fun s r hs=>by
   unfold stepX at hs
   split at hs<;>simp only [Option.some.injEq,reduceCtorEq] at hs
   all_goals (subst hs;rename_i hx;exact hx)) (s:=(vals,H)) (r:=r0) (xnF.2 ⟨n,hr⟩)
end Go.Sim
namespace Go.Sim.M
open Go.RowKit Go.Proofs
def mmA (g:FuncId):Bool:=([115,117,
 129,154,167,
 95,128,146,
 69,94,120,
 53,82,100,55,
 92,119,141,
 112,137,157,
 97,68,90,78]:List Nat).contains g
noncomputable def EA0:Env:={ E0 with ls:=lsOf [40,42,83],fuel:=1000 }
theorem xFi:OrcOk Tryz.prog ITryz EA0:=xDr
noncomputable def EAr:Env:={ Env.deep Tryz.prog mmA EA0 10 with pin:=0,nt:=60,ls:=lsOf [] }
theorem xFu:OrcOk Tryz.prog (ITryz.at 0) EAr:=xo2 mxTryz mmA (inv0Ok Tryz.prog 0) xFi (fun _=>rfl) 10
noncomputable def xGt:Lp:=closedLp Tryz.prog EAr [3,4,11,12,13] [4] [(4,2,133280301139)] (loopAt Tryz.f67 0) 100
noncomputable def EAr1:Env:={ EAr with lp:=lpsOf [(codeId (loopAt Tryz.f67 0),xGt)] }
theorem xIF:OrcOk Tryz.prog (ITryz.at 0) EAr1:=xFu
noncomputable def xyz:List AV→Option (Bool×AV):=fun xs=>match XF Tryz.prog EAr1 Tryz.f67 (Tryz.f67.body.getD .skip) xs with
 | some r=>some (true,r)
 | none=>none
theorem xH9:OcOk Tryz.prog ITryz 67 xyz:=fun xs r h=>by
 unfold xyz at h
 split at h
 case h_2=>simp at h
 rename_i r0 hr
 simp only [Option.some.injEq,Prod.mk.injEq,true_and] at h
 subst h
 refine xaQ (p:=0) (xa1 mxTryz (inv0Ok Tryz.prog _) rfl xIF Tryz.func67 rfl (by kernel_rfl) (xa7 (ls:=[loopAt Tryz.f67 0]) (by kernel_rfl) (fun l hl lp hs=>?_)) hr)
 simp only [List.mem_cons,List.not_mem_nil,or_false] at hl
 subst hl
 rw [show EAr1.lp (codeId (loopAt Tryz.f67 0))=some xGt by kernel_rfl] at hs
 simp only [Option.some.injEq] at hs
 subst hs
 exact xCj (E:=EAr) mxTryz (inv0Ok Tryz.prog _) rfl xFu (xok fun _=>rfl)
noncomputable def EAs:Env:=EA0.with 67 xyz
theorem xFQ:OrcOk Tryz.prog ITryz EAs:=xFi.with xH9
noncomputable def EAd:Env:={ Env.deep Tryz.prog mmA EAs 14 with pin:=0 }
mutual
def eqV:AV→AV→Bool
 | .int k a,.int k' b=>decide (k=k')&&decide (a=b)
 | .bool a,.bool b=>a==b
 | .str a,.str b=>decide (a=b)
 | .list n a,.list m b=>Nat.beq n m&&eqVs a b
 | .agg a,.agg b=>eqVs a b
 | _,_=>false
def eqVs:List AV→List AV→Bool
 | [],[]=>true
 | a::l,b::m=>eqV a b&&eqVs l m
 | _,_=>false
end
mutual
theorem xJi:∀ (a b:AV),eqV a b=true→a=b:=fun a b h=>by
 cases a<;>cases b<;>first|(simp [eqV] at h;done)|skip
 all_goals simp only [eqV,Bool.and_eq_true,decide_eq_true_eq,beq_iff_eq] at h
 all_goals first|(rw [h.1,h.2];done)|(rw [h];done)|(rw [Nat.eq_of_beq_eq_true h.1,xug _ _ h.2];done)|(rw [xug _ _ h])
theorem xug:∀ (a b:List AV),eqVs a b=true→a=b
 | [],[],_=>rfl
 | a::l,b::m,h=>by simp only [eqVs,Bool.and_eq_true] at h;rw [xJi a b h.1,xug l m h.2]
 | [],_::_,h=>by simp [eqVs] at h
 | _::_,[],h=>by simp [eqVs] at h
end
def ptO (args:List AV) (r:AV):List AV→Option (Bool×AV):=fun xs=>match eqVs xs args with
 | true=>some (true,r)
 | false=>none
theorem xAn {P:Program} {Inv:IV} {f:FuncId} {args:List AV} {r:AV} (h:Good P Inv f args r):OcOk P Inv f (ptO args r):=fun xs r0 h0=>by
 unfold ptO at h0
 split at h0
 case h_2=>simp at h0
 rename_i he
 simp only [Option.some.injEq,Prod.mk.injEq,true_and] at h0
 subst h0
 rw [xug _ _ he];exact h
theorem xp2 {f:FuncId} {fn:Func} {args:List AV} {r:AV} (hf:Tryz.prog.funcs[f]?=some fn) (hb:fn.body.isSome=true) (hname:(fn.name == "runtime.NumGoroutine")=false) (h:XF Tryz.prog EAd fn (fn.body.getD .skip) args=some r):Good Tryz.prog ITryz f args r :=
 xaQ (p:=0) (xa1 mxTryz (inv0Ok Tryz.prog _) rfl (xqa (xo2 mxTryz mmA (inv0Ok Tryz.prog 0) xFQ (fun _=>rfl) 14)) hf hb hname (xok fun _=>rfl) h)
def fcA (a b:Int):AV:=.agg [.list 3 [.agg [.int .i64 1,.int .i64 1,.str []]],.int .i64 a,.int .i64 b]
def lA:AV:=.list 3 [fcA 0 5,fcA 5 8,fcA 2 3]
set_option maxRecDepth 100000 in
theorem xJz:XF Tryz.prog EAd Tryz.f14 (Tryz.f14.body.getD .skip) [lA]=some (.list 3 [fcA 0 8,fcA 2 3]):=by kernel_rfl
theorem xJn:XF Tryz.prog EAd Tryz.f16 (Tryz.f16.body.getD .skip) [lA]=some (.list 3 [fcA 0 8]):=by kernel_rfl
theorem xJc:OcOk Tryz.prog ITryz 14 (ptO [lA] (.list 3 [fcA 0 8,fcA 2 3])):=xAn (xp2 Tryz.func14 rfl (by kernel_rfl) xJz)
theorem xJf:OcOk Tryz.prog ITryz 16 (ptO [lA] (.list 3 [fcA 0 8])):=xAn (xp2 Tryz.func16 rfl (by kernel_rfl) xJn)
def resA:AV:=.list 3 [fcA 2 5,fcA 5 6,fcA 2 3]
theorem xJa:XF Tryz.prog EAd Tryz.f14 (Tryz.f14.body.getD .skip) [resA]=some (.list 3 [fcA 2 3,fcA 2 6]):=by kernel_rfl
theorem xI4:OcOk Tryz.prog ITryz 14 (ptO [resA] (.list 3 [fcA 2 3,fcA 2 6])):=xAn (xp2 Tryz.func14 rfl (by kernel_rfl) xJa)
theorem xJu:XF Tryz.prog EAd Tryz.f21 (Tryz.f21.body.getD .skip) [lA]=some (.list 1 [.int .i64 0,.int .i64 2,.int .i64 3,.int .i64 5,.int .i64 8]):=by kernel_rfl
theorem xJg:OcOk Tryz.prog ITryz 21 (ptO [lA] (.list 1 [.int .i64 0,.int .i64 2,.int .i64 3,.int .i64 5,.int .i64 8])):=xAn (xp2 Tryz.func21 rfl (by kernel_rfl) xJu)
noncomputable def EAt:Env:=(((EAs.with 14 (ptO [lA] (.list 3 [fcA 0 8,fcA 2 3]))).with 14 (ptO [resA] (.list 3 [fcA 2 3,fcA 2 6]))).with 16 (ptO [lA] (.list 3 [fcA 0 8]))).with 21 (ptO [lA] (.list 1 [.int .i64 0,.int .i64 2,.int .i64 3,.int .i64 5,.int .i64 8]))
theorem xI0:OrcOk Tryz.prog ITryz EAt:=(((xFQ.with xJc).with xI4).with xJf).with xJg
noncomputable def EAe:Env:={ Env.deep Tryz.prog mmA EAt 14 with pin:=0 }
theorem xH6:XF Tryz.prog EAe Tryz.f12 (Tryz.f12.body.getD .skip) []=some (.bool true):=by kernel_rfl
def xyv:List AV→Option (Bool×AV)
 | []=>some (true,.bool true)
 | _=>none
theorem xIE:OcOk Tryz.prog ITryz 12 xyv:=fun xs r h=>by
 unfold xyv at h;split at h
 · simp only [Option.some.injEq,Prod.mk.injEq,true_and] at h;subst h
   have hd:=xo2 mxTryz mmA (inv0Ok Tryz.prog 0) xI0 (fun _=>rfl) 14
   exact xaQ (p:=0) (xa1 mxTryz (inv0Ok Tryz.prog _) rfl (xqa hd) Tryz.func12 rfl (by kernel_rfl) (xok fun _=>rfl) xH6)
 · simp at h
end Go.Sim.M
end
noncomputable section
namespace Go.Sim.M
open Go.IntKind (i64 u64 u8)
open Go.RowKit Go.Proofs
def EKA:Env:=EKR3.with 12 xyv
theorem xBu:OrcOk Tryz.prog ITryz EKA:=xII.with xIE
end Go.Sim.M
end
noncomputable section
set_option maxRecDepth 100000
namespace Go.Sim.M
open Go.IntKind (i64 u64 u8)
open Go.RowKit Go.Proofs
def xiR:Env:=EKA.fn 23 0 (lsOf []) (lpsOf [])
theorem xw5:OrcOk Tryz.prog (ITryz.at 0) xiR:=xBu.fn
theorem xsP:LoOk Tryz.prog (ITryz.at xiR.pin) xiR (loopAt Tryz.f40 0):=xaF (by kernel_rfl)
def xiW {T:Type} (l:LA) (i:Int) (δ:T) (κl:(Int)→T) (κr:(Bool×(Bool)×(Unit))→T):T:=br (decide (i<l.length)) (br (decide (0≤i)&&decide (i<l.length)) (br (decide (i.toNat<l.length)&&hasSh1 (Sh.list 3) ((l.getD i.toNat .top).cells.getD 0 .top)) (br (decide ((↑((l.getD i.toNat .top).cells.getD 0 .top).toList.length:Int)>60)) (κr (true,(false),())) (κl (i64.wrap (i+1)))) δ) δ) (κr (false,false,()))
def xbZ (l:LA):(Int)→Option ((Int)⊕(Bool×(Bool)×(Unit))):=fun (i)=>xiW l i none (fun s=>some (.inl s)) (fun p=>some (.inr p))
def xg5 (l:LA):(Int)→LA×List Box:=fun (i)=>([AV.list 3 l,AV.int .i64 i],[])
def xfW (l:LA):(Bool×(Bool)×(Unit))→LR:=fun p=>(.node p.1 (.leaf .ret [AV.bool p.2.1] []) (.leaf (.exit 0) [.top] []))
abbrev xy2 (a:LA) (H:List Box):=XR Tryz.prog xiR [0,5] [4] [] (loopAt Tryz.f40 0) a H
theorem xy0 (l:LA) (i:Int):Enc (encR (xg5 l) (xfW l)) (xbZ l i) (xy2 (xg5 l i).1 (xg5 l i).2):=by
 refine eV (xiW l i none (fun s=>some (encR (xg5 l) (xfW l) (.inl s))) (fun p=>some (encR (xg5 l) (xfW l) (.inr p)))) (by kernel_rfl) ?_;unfold xbZ xiW;repeat' first|exact eN|exact eS rfl|apply eB
def xqk:Lp:=lpOf [0,5] [4] [] (pCons (pList 3 pAny) (pCons (pInt .i64) pNil)) pNil fun (l,(i,_)) _=>((Iter (xbZ l) (i)).isSome,xfW l ((Iter (xbZ l) (i)).getD (false,false,())))
theorem xvm:LoopOk Tryz.prog (ITryz.at xiR.pin) xiR.nt (loopAt Tryz.f40 0) xqk:=xbr fun b d e c=>by
 obtain ⟨l,⟨i,_⟩⟩:=b
 obtain ⟨a,rfl⟩:=Prod.mk.inj c
 exact xaG mxTryz (inv0Ok Tryz.prog _) rfl xw5 xsP (xg5 l) (xfW l) (fun p=>by simp only [xfW,LR.eval];first|(simp;done)|(repeat' split<;>simp)) (xy0 l) (s:=(i)) (xaf a)
def xjX:Env:=EKA.fn 23 0 (lsOf []) (lpsOf [(4,xqk)])
theorem xwi:OrcOk Tryz.prog (ITryz.at 0) xjX:=xBu.fn
theorem xus:LoOk Tryz.prog (ITryz.at xjX.pin) xjX (Tryz.f40.body.getD .skip):=xa7 (ls:=[loopAt Tryz.f40 0]) (by kernel_rfl) (lkC xvm lkN)
def xnW {T:Type} (l:LA) (a:Int) (δ:T) (κ:Bool→T):T:=br (decide ((↑l.length:Int)>a)) (κ (false)) (br ((Iter (xbZ l) 0).isSome) (br (((Iter (xbZ l) 0).getD (false,false,())).fst) (κ (((Iter (xbZ l) 0).getD (false,false,())).snd.fst)) (κ (true))) δ)
def xjf (l:LA) (a:Int):Option (Bool):=xnW l a none some
theorem xCs (l:LA) (a:Int):Enc (fun (p:Bool)=>((AV.bool p):AV)) (xjf l a) (XF Tryz.prog xjX Tryz.f40 (Tryz.f40.body.getD .skip) [AV.list 3 l,AV.int .i64 a]):=by
 refine eV (xnW l a none (fun (p:Bool)=>some ((AV.bool p):AV))) (by kernel_rfl) ?_;unfold xjf xnW;repeat' first|exact eN|exact eS rfl|apply eB
def xuY:LA→Option (Bool×AV):=ocOf (sCons (sList 3 pAny) (sCons (sEq (pInt .i64)) sNil)) fun (l,(a,_))=>((xjf l a).isSome,(AV.bool ((xjf l a).getD false)))
theorem xBX:OcOk Tryz.prog ITryz 40 (xuY):=xbc fun c g e=>by
 obtain ⟨l,⟨f,_⟩⟩:=c
 obtain ⟨a,b⟩:=Prod.mk.inj e
 refine xaQ (p:=xjX.pin) (xa1 mxTryz (inv0Ok Tryz.prog _) rfl xwi Tryz.func40 rfl (by kernel_rfl) xus ((xCs _ _ _ (xaf (d:=false) a)).trans ?_))
 exact congrArg some b
def xDz:Env:=EKA.with 40 xuY
theorem xBH:OrcOk Tryz.prog ITryz xDz:=xBu.with xBX
def xkn:Env:=xDz.fn 5 0 (lsOf []) (lpsOf [])
theorem xwE:OrcOk Tryz.prog (ITryz.at 0) xkn:=xBH.fn
theorem xuz:LoOk Tryz.prog (ITryz.at xkn.pin) xkn (Tryz.f11.body.getD .skip):=xaF (by kernel_rfl)
def xnx {T:Type} (l:LA) (δ:T) (κ:Bool→T):T:=br ((xjf l 24).isSome) (κ ((xjf l 24).getD false)) δ
def xi9 (l:LA):Option (Bool):=xnx l none some
theorem xB1 (l:LA):Enc (fun (p:Bool)=>((AV.bool p):AV)) (xi9 l) (XF Tryz.prog xkn Tryz.f11 (Tryz.f11.body.getD .skip) [AV.list 3 l]):=by
 refine eV (xnx l none (fun (p:Bool)=>some ((AV.bool p):AV))) (by kernel_rfl) ?_;unfold xi9 xnx;repeat' first|exact eN|exact eS rfl|apply eB
def xva:LA→Option (Bool×AV):=ocOf (sCons (sList 3 pAny) sNil) fun (l,_)=>((xi9 l).isSome,(AV.bool ((xi9 l).getD false)))
theorem xCo:OcOk Tryz.prog ITryz 11 (xva):=xbc fun c f e=>by
 obtain ⟨l,_⟩:=c
 obtain ⟨a,b⟩:=Prod.mk.inj e
 refine xaQ (p:=xkn.pin) (xa1 mxTryz (inv0Ok Tryz.prog _) rfl xwE Tryz.func11 rfl (by kernel_rfl) xuz ((xB1 _ _ (xaf (d:=false) a)).trans ?_))
 exact congrArg some b
def xHU:Env:=xDz.with 11 xva
theorem xG9:OrcOk Tryz.prog ITryz xHU:=xBH.with xCo
abbrev xHN:Env:=xHU
theorem xHi:OrcOk Tryz.prog ITryz xHN:=xG9
abbrev xHD:Env:=xHN
theorem xGK:OrcOk Tryz.prog ITryz xHD:=xHi
abbrev xHX:Env:=xHD
theorem xHp:OrcOk Tryz.prog ITryz xHX:=xGK
abbrev xH0:Env:=xHX
theorem xHA:OrcOk Tryz.prog ITryz xH0:=xHp
abbrev xDI:Env:=xH0
theorem xAz:OrcOk Tryz.prog ITryz xDI:=xHA
def xcW:Env:=xDI.fn 72 0 (lsOf []) (lpsOf [])
theorem xoo:OrcOk Tryz.prog (ITryz.at 0) xcW:=xAz.fn
theorem xm3:LoOk Tryz.prog (ITryz.at xcW.pin) xcW (loopAt Tryz.f6 0):=xaF (by kernel_rfl)
def xf3 (l:LA) (t i:Int) (a:LA):=a++[AV.agg [AV.list 3 ((l.getD i.toNat .top).cells.getD 0 .top).toList,AV.int .i64 t,AV.int .i64 ((l.getD i.toNat .top).cells.getD 2 .top).toInt]]
def xdd {T:Type} (l:LA) (t:Int) (a:Nat) (i:Int) (b:LA) (δ:T) (κl:(Nat×Int×LA)→T) (κr:(Nat×LA)→T):T:=br (decide (i≥0)) (br (decide (0≤i)&&decide (i<l.length)) (br (decide (i.toNat<l.length)&&((l.getD i.toNat .top).cells.length==3&&hasShs [Sh.list 3,Sh.int .i64,Sh.int .i64] (l.getD i.toNat .top).cells 0)) (br (xg4 ((l.getD i.toNat .top).cells.getD 1 .top).toInt ((l.getD i.toNat .top).cells.getD 2 .top).toInt t) (br (decide (((l.getD i.toNat .top).cells.getD 1 .top).toInt<t)) (br (a==b.length&&(decide ((a+1)*40≤140737488355328)&&decide (a+1≤4611686018427387904))) (br (a+1==(xf3 l t i b).length&&(decide ((a+1+1)*40≤140737488355328)&&decide (a+1+1≤4611686018427387904))) (κl (a+1+1,i64.wrap (i - 1),xf3 l t i b++[AV.agg [AV.list 3 ((l.getD i.toNat .top).cells.getD 0 .top).toList,AV.int .i64 ((l.getD i.toNat .top).cells.getD 1 .top).toInt,AV.int .i64 t]])) δ) δ) (br (a==b.length&&(decide ((a+1)*40≤140737488355328)&&decide (a+1≤4611686018427387904))) (κl (a+1,i64.wrap (i - 1),b++[AV.agg [AV.list 3 ((l.getD i.toNat .top).cells.getD 0 .top).toList,AV.int .i64 ((l.getD i.toNat .top).cells.getD 1 .top).toInt,AV.int .i64 ((l.getD i.toNat .top).cells.getD 2 .top).toInt]])) δ)) (br (a==b.length&&(decide ((a+1)*40≤140737488355328)&&decide (a+1≤4611686018427387904))) (κl (a+1,i64.wrap (i - 1),b++[AV.agg [AV.list 3 ((l.getD i.toNat .top).cells.getD 0 .top).toList,AV.int .i64 ((l.getD i.toNat .top).cells.getD 1 .top).toInt,AV.int .i64 ((l.getD i.toNat .top).cells.getD 2 .top).toInt]])) δ)) δ) δ) (κr (a,b))
def xaY (l:LA) (t:Int):(Nat×Int×LA)→Option ((Nat×Int×LA)⊕(Nat×LA)):=fun (b,i,a)=>xdd l t b i a none (fun s=>some (.inl s)) (fun p=>some (.inr p))
def xcC (l:LA) (t:Int):(Nat×Int×LA)→LA×List Box:=fun (b,i,a)=>([AV.list 3 l,AV.int .i64 t,AV.osl 0 0 0 b,AV.int .i64 i],[⟨0,3,42,a,false,true⟩])
def xcg (l:LA) (t:Int):(Nat×LA)→LR:=fun p=>(.leaf (.exit 0) [AV.list 3 l,AV.osl 0 0 0 p.1] [⟨0,3,42,p.2,false,true⟩])
abbrev xoA (a:LA) (H:List Box):=XR Tryz.prog xcW [0,1,5,6] [0,5] [(5,3,42)] (loopAt Tryz.f6 0) a H
theorem xoH (l:LA) (t:Int) (s:Nat×Int×LA):Enc (encR (xcC l t) (xcg l t)) (xaY l t s) (xoA (xcC l t s).1 (xcC l t s).2):=by
 obtain ⟨b,i,a⟩:=s
 refine eV (xdd l t b i a none (fun s=>some (encR (xcC l t) (xcg l t) (.inl s))) (fun p=>some (encR (xcC l t) (xcg l t) (.inr p)))) (by kernel_rfl) ?_;unfold xaY xdd;repeat' first|exact eN|exact eS rfl|apply eB
def xjc:Lp:=lpOf [0,1,5,6] [0,5] [(5,3,42)] (pCons (pList 3 pAny) (pCons (pInt .i64) (pCons (pOsl 0 0 0) (pCons (pInt .i64) pNil)))) (pCons (pBox 0 3 42 false true pAny) pNil) fun (l,(t,(b,(i,_)))) (a,_)=>((Iter (xaY l t) (b,i,a)).isSome,xcg l t ((Iter (xaY l t) (b,i,a)).getD (0,[])))
theorem xnM:LoopOk Tryz.prog (ITryz.at xcW.pin) xcW.nt (loopAt Tryz.f6 0) xjc:=xbr fun d e g f=>by
 obtain ⟨l,⟨t,⟨b,⟨i,_⟩⟩⟩⟩:=d
 obtain ⟨a,_⟩:=e
 obtain ⟨c,rfl⟩:=Prod.mk.inj f
 exact xaG mxTryz (inv0Ok Tryz.prog _) rfl xoo xm3 (xcC l t) (xcg l t) (fun p=>by simp only [xcg,LR.eval];first|(simp;done)|(repeat' split<;>simp)) (xoH l t) (s:=(b,i,a)) (xaf c)
def xdW:Env:=xDI.fn 72 0 (lsOf []) (lpsOf [(5,xjc)])
theorem xoh:OrcOk Tryz.prog (ITryz.at 0) xdW:=xAz.fn
theorem xnJ:LoOk Tryz.prog (ITryz.at xdW.pin) xdW (Tryz.f6.body.getD .skip):=xa7 (ls:=[loopAt Tryz.f6 0]) (by kernel_rfl) (lkC xnM lkN)
def xgU (l:LA) (t:Int):=Iter (xaY l t) (0,i64.wrap ((↑l.length:Int) - 1),[])
def xgT (l:LA) (t:Int):=(xgU l t).getD (0,[])
def xdO (l:LA) (t:Int):=(xgT l t).fst
def xdV (l:LA) (t:Int):=(xgT l t).snd
def xhf (l:LA) (t:Int):=List.take (xdO l t) (List.drop 0 (xdV l t))
def xhs (l:LA) (t:Int):=xe2 (xhf l t)
def xha (l:LA) (t:Int):=xdc (xhf l t)
def xhh (l:LA) (t:Int):=xel ((xhs l t).getD []) ((xe2 l).getD [])
def xhg (l:LA) (t:Int):=(xha l t).getD []
def xhb (l:LA) (t:Int):=(xha l t).isSome
def xhr (l:LA) (t:Int):=xel (xhg l t) ((xdc l).getD [])
def xhq (l:LA) (t:Int):=xdQ (xhg l t)
def xfC {T:Type} (l:LA) (t:Int) (δ:T) (κ:Bool→T):T:=br ((xi9 l).isSome) (br (!(xi9 l).getD false) (κ (true)) (br ((xgU l t).isSome) (br (decide (0+xdO l t≤(xdV l t).length)&&true) (br (xhb l t) (br ((xdc l).isSome) (br ((xhr l t).isSome) (br ((xhr l t).getD false) (br (decide (0+xdO l t≤(xdV l t).length)&&true) (br ((xhs l t).isSome) (br ((xe2 l).isSome) (br ((xhh l t).isSome) (br ((xhh l t).getD false) (br (decide (0+xdO l t≤(xdV l t).length)&&true) (br (xhb l t) (br ((xhq l t).isSome) (br ((xhq l t).getD false) (κ (true)) (κ (false))) δ) δ) δ) (κ (false))) δ) δ) δ) δ) (κ (false))) δ) δ) δ) δ) δ)) δ
def xcT (l:LA) (t:Int):Option (Bool):=xfC l t none some
theorem xpX (l:LA) (t:Int):Enc (fun (p:Bool)=>((AV.bool p):AV)) (xcT l t) (XF Tryz.prog xdW Tryz.f6 (Tryz.f6.body.getD .skip) [AV.list 3 l,AV.int .i64 t]):=by
 refine eV (xfC l t none (fun (p:Bool)=>some ((AV.bool p):AV))) (by kernel_rfl) ?_;unfold xcT xfC;repeat' first|exact eN|exact eS rfl|apply eB
def xpx:LA→Option (Bool×AV):=ocOf (sCons (sList 3 pAny) (sCons (sEq (pInt .i64)) sNil)) fun (l,(t,_))=>((xcT l t).isSome,(AV.bool ((xcT l t).getD false)))
theorem xpW:OcOk Tryz.prog ITryz 6 (xpx):=xbc fun c f e=>by
 obtain ⟨l,⟨t,_⟩⟩:=c
 obtain ⟨a,b⟩:=Prod.mk.inj e
 refine xaQ (p:=xdW.pin) (xa1 mxTryz (inv0Ok Tryz.prog _) rfl xoh Tryz.func6 rfl (by kernel_rfl) xnJ ((xpX _ _ _ (xaf (d:=false) a)).trans ?_))
 exact congrArg some b
end Go.Sim.M
end
