/- Part 14 of the proof of the law. -/
import Derived.Test.YtefloaolddjnhaaGreatDoorQF13
import Derived.StillTailTactics
set_option linter.unusedVariables false
set_option linter.unusedSimpArgs false
noncomputable section
set_option maxRecDepth 100000
namespace Go.Sim.M
def cmpI (x y:Int):Int:=if x<y then -1 else if y<x then 1 else 0
def orI (x y:Int):Int:=if x=0 then y else x
end Go.Sim.M
namespace Go.Proofs
open Go.RowKit Go.Sim Go.Sim.M Go.Sort Go.Lib
theorem Tryz.cmp_walk (x y:Int) (w:World):Calls Tryz.prog 54 #[.int .i64 x,.int .i64 y] w fun e w'=>e=.returned (.int .i64 (cmpI x y))∧w'=w:=by
 unfold cmpI
 go_enter Tryz.func54,Tryz.ntmps54
 go_wp2
 all_goals (go_ret;exact ⟨rfl,rfl⟩)
theorem Tryz.or_walk (x y:Int) (b off c:Nat) (w:World) (h0:w.cell? ⟨b,off,none⟩=some (.int .i64 x)) (h1:w.cell? ⟨b,off+1,none⟩=some (.int .i64 y)):Calls Tryz.prog 71 #[.slice (some ⟨b,off,none⟩) 2 c] w fun e w'=>e=.returned (.int .i64 (orI x y))∧w'=w:=by
 unfold orI
 by_cases hx:x=0
 · subst hx
   rw [if_pos rfl]
   by_cases hy:y=0
   · subst hy
     go_enter Tryz.func71,Tryz.ntmps71
     go_wp2
     refine wp_loop_rounds 3 ?_
     rw [rounds_succ]
     go_wp2
     rw [rounds_succ]
     go_wp2
     rw [rounds_succ]
     go_wp2
     go_ret
     exact ⟨rfl,rfl⟩
   · have hy':(y != 0)=true:=by simpa using hy
     go_enter Tryz.func71,Tryz.ntmps71
     go_wp2
     refine wp_loop_rounds 3 ?_
     rw [rounds_succ]
     go_wp2
     rw [rounds_succ]
     go_wp2
     go_ret
     exact ⟨rfl,rfl⟩
 · have hx':(x != 0)=true:=by simpa using hx
   rw [if_neg hx]
   go_enter Tryz.func71,Tryz.ntmps71
   go_wp2
   refine wp_loop_rounds 3 ?_
   rw [rounds_succ]
   go_wp2
   go_ret
   exact ⟨rfl,rfl⟩
theorem fill2I (u1 u2:Int):Instr.fill (fun i=>some (i*1,1)) ((Array.range (2*1)).map (fun x=>(Value.int .i64 0).cells[x % (Value.int .i64 0).cells.size]!)) [(0,.int .i64 u1),(1,.int .i64 u2)]=some #[.int .i64 u1,.int .i64 u2]:=by
 simp [Instr.fill,Array.range,Value.cells]
 apply Array.ext
 · simp
 · intro i h1 h2
   rcases i with _|_|i
   · simp
   · simp
   · simp at h2;omega
set_option maxHeartbeats 2000000 in
theorem Tryz.levels2_walk (a b c d:Int) (w:World):Calls Tryz.prog 70 #[.agg #[.int .i64 a,.int .i64 b],.agg #[.int .i64 c,.int .i64 d]] w fun e w'=>e=.returned (.int .i64 (orI (cmpI a c) (cmpI b d)))∧∃ q os',w'=Sort.grow (w.drewN q) os':=by
 go_enter Tryz.func70,Tryz.ntmps70
 go_wp2_with (go_at_call 54;skip)
 have g0:(w.alloc (.cells #[.int .i64 a,.int .i64 b] 31)).heap[w.heap.size]?=some (.cells #[.int .i64 a,.int .i64 b] 31 (0,0)):=heap_alloc_new w _
 have g1:((w.alloc (.cells #[.int .i64 a,.int .i64 b] 31)).alloc (.cells #[.int .i64 c,.int .i64 d] 31)).heap[w.heap.size+1]?=some (.cells #[.int .i64 c,.int .i64 d] 31 (0,0)):=by
  have:=heap_alloc_new (w.alloc (.cells #[.int .i64 a,.int .i64 b] 31)) (.cells #[.int .i64 c,.int .i64 d] 31)
  have e:(w.alloc (.cells #[.int .i64 a,.int .i64 b] 31)).heap.size=w.heap.size+1:=by simp
  rwa [e] at this
 have f0:((w.alloc (.cells #[.int .i64 a,.int .i64 b] 31)).alloc (.cells #[.int .i64 c,.int .i64 d] 31)).cell? ⟨w.heap.size,0,none⟩=some (.int .i64 a):=by
  rw [World.cell?_alloc_past _ _ _ (by simp)];simp only [World.cell?,g0];rfl
 have f1:((w.alloc (.cells #[.int .i64 a,.int .i64 b] 31)).alloc (.cells #[.int .i64 c,.int .i64 d] 31)).cell? ⟨w.heap.size,1,none⟩=some (.int .i64 b):=by
  rw [World.cell?_alloc_past _ _ _ (by simp)];simp only [World.cell?,g0];rfl
 have f2:((w.alloc (.cells #[.int .i64 a,.int .i64 b] 31)).alloc (.cells #[.int .i64 c,.int .i64 d] 31)).cell? ⟨w.heap.size+1,0,none⟩=some (.int .i64 c):=by
  simp only [World.cell?,g1];rfl
 have f3:((w.alloc (.cells #[.int .i64 a,.int .i64 b] 31)).alloc (.cells #[.int .i64 c,.int .i64 d] 31)).cell? ⟨w.heap.size+1,1,none⟩=some (.int .i64 d):=by
  simp only [World.cell?,g1];rfl
 have f4:∃ q os',((w.alloc (.cells #[.int .i64 a,.int .i64 b] 31)).alloc (.cells #[.int .i64 c,.int .i64 d] 31))=Sort.grow (w.drewN q) os':=⟨0,_,by rw [alloc_eq_grow,alloc_eq_grow,grow_grow];rfl⟩
 generalize ((w.alloc (.cells #[.int .i64 a,.int .i64 b] 31)).alloc (.cells #[.int .i64 c,.int .i64 d] 31))=W2 at f0 f1 f2 f3 f4 ⊢
 refine wp_region_still_tail 10 (by kernel_rfl) (by kernel_rfl) ?_
 simp only [List.take_succ_cons,List.take_zero,List.drop_succ_cons,List.drop_zero]
 change wpStill _ _ (World.drew W2) _ _ _
 have f0':W2.drew.cell? ⟨w.heap.size,0,none⟩=some (.int .i64 a):=f0
 have f1':W2.drew.cell? ⟨w.heap.size,1,none⟩=some (.int .i64 b):=f1
 have f2':W2.drew.cell? ⟨w.heap.size+1,0,none⟩=some (.int .i64 c):=f2
 have f3':W2.drew.cell? ⟨w.heap.size+1,1,none⟩=some (.int .i64 d):=f3
 have f4':∃ q os',W2.drew=Sort.grow (w.drewN q) os':=by obtain ⟨q,os',e⟩:=f4;exact ⟨q+1,os',by rw [e];rfl⟩
 iterate 4 still_step
 still_call (Tryz.cmp_walk _ _ _)
 iterate 4 still_step
 still_call (Tryz.cmp_walk _ _ _)
 refine wpStill_nil ?_
 change wpList _ _ _ _ _ (World.drew W2)
 generalize World.drew W2=W at f0' f1' f2' f3' f4' ⊢
 generalize hu1:cmpI a c=u1
 generalize hu2:cmpI b d=u2
 obtain ⟨ie,q1,q2,q3⟩:∃ ie,Tryz.prog.info? 3=some ie∧ie.zero=some (.int .i64 0)∧ie.size=1:=⟨(Tryz.prog.info? 3).get (by kernel_rfl),(Option.some_get _).symm,by kernel_rfl,by kernel_rfl⟩
 refine wpList_buildSlice rfl 28 3 2 _ rfl #[.int .i64 u1,.int .i64 u2] ie (.int .i64 0) (by kernel_rfl) q1 q2 (by rw [q3];decide) (by rw [q3];decide) (by rw [q3];refine Eq.trans (congrArg _ ?_) (fill2I u1 u2);simp [Act.eval]) ?_
 simp only [Act.put]
 go_wp2_with fail
 have g2:(W.alloc (.cells #[.int .i64 u1,.int .i64 u2] 3)).heap[W.heap.size]?=some (.cells #[.int .i64 u1,.int .i64 u2] 3 (0,0)):=heap_alloc_new W _
 refine (Tryz.or_walk u1 u2 W.heap.size 0 2 (W.alloc (.cells #[.int .i64 u1,.int .i64 u2] 3)) (by simp only [World.cell?,g2];rfl) (by simp only [World.cell?,g2];rfl)).mono ?_
 rintro e w' ⟨rfl,rfl⟩
 go_wp2
 go_ret
 obtain ⟨q,os',hq⟩:=f4'
 exact ⟨by rw [hu1,hu2];rfl,q,_,by rw [hq,alloc_eq_grow,grow_grow]⟩
end Go.Proofs
namespace Go.Sim.M
abbrev TyE:Type:=Fin 1099511627777×Int×Int
def intsE (x:TyE):List Int:=[(x.1.val:Int),x.2.1,x.2.2]
def cmpE (x y:TyE):Int:=(x.1.val:Int) - (y.1.val:Int)
end Go.Sim.M
namespace Go.Proofs
open Go.RowKit Go.Sim Go.Sim.M Go.Sort
set_option maxHeartbeats 1000000 in
theorem Tryz.walkE (a b c a' b' c' r:Int) (hr:IntKind.i64.wrap (a - a')=r) (W:World):Calls Tryz.prog 130 #[.agg #[.int .i64 a,.int .i64 b,.int .i64 c],.agg #[.int .i64 a',.int .i64 b',.int .i64 c']] W fun e w'=>e=.returned (.int .i64 r)∧∃ q os',w'=Sort.grow (W.drewN q) os':=by
 go_enter Tryz.func130,Tryz.ntmps130
 go_wp2
 go_ret
 subst hr
 exact ⟨rfl,0,_,by rw [alloc_eq_grow,alloc_eq_grow,grow_grow];rfl⟩
end Go.Proofs
namespace Go.Sim.M
open Go.RowKit Go.Proofs Go.Sort
def isE:AV→Bool
 | .agg [.int .i64 a,.int .i64 _,.int .i64 _]=>decide (0≤a)&&decide (a≤1099511627776)
 | _=>false
def decE:AV→TyE
 | .agg [.int _ a,.int _ b,.int _ c]=>(Fin.ofNat 1099511627777 a.toNat,b,c)
 | _=>default
noncomputable def srtE (xs:List AV):List AV:=(pdqL cmpE (xs.map decE)).map (encI intsE)
theorem xSv {x:AV} (h:isE x=true):encI intsE (decE x)=x:=by
 unfold isE at h
 split at h
 · rename_i a b c
   simp only [Bool.and_eq_true,decide_eq_true_eq] at h
   have:a.toNat % 1099511627777=a.toNat:=Nat.mod_eq_of_lt (by omega)
   simp only [decE,encI,intsE,List.map_cons,List.map_nil,Fin.ofNat,this,Int.toNat_of_nonneg h.1]
 · simp at h
theorem xQ4 {xs:List AV} (h:xs.all isE=true):(xs.map decE).map (encI intsE)=xs:=by
 rw [List.map_map]
 conv=>rhs;rw [←List.map_id xs]
 refine List.map_congr_left fun x hx=>?_
 exact xSv (List.all_eq_true.1 h x hx)
theorem ltE (x y:TyE):ltOf cmpE x y=decide (x.1.val<y.1.val):=by
 unfold ltOf cmpE
 by_cases h:x.1.val<y.1.val
 · rw [decide_eq_true h,decide_eq_true (by omega)]
 · rw [decide_eq_false h,decide_eq_false (by omega)]
theorem swoE:SWO (ltOf cmpE) where
 irrefl x:=by rw [ltE];simp
 trans x y z h1 h2:=by rw [ltE] at *;simp at *;omega
 ntrans x y z h1 h2:=by rw [ltE] at *;simp at *;omega
noncomputable def xJW:List AV→List Box→Option (Bool×AV×List Box)
 | [.osl (.b 0) ver 0 n,.func g []],[⟨ver',3,ty,xs,false,true⟩]=>match Nat.beq g 130&&Nat.beq ty 117 with
  | true=>some (Nat.beq ver ver'&&(Nat.beq n xs.length&&(decide (n<4611686018427387904)&&xs.all isE)),.tuple [],[⟨ver',3,117,srtE xs,false,true⟩])
  | false=>none
 | _,_=>none
theorem xUg:OmOk Tryz.prog ITryz 129 xJW:=fun ass H r H' h=>by
 unfold xJW at h
 split at h
 · rename_i ver n g ver' ty xs
   split at h
   case h_2=>simp at h
   rename_i hg
   simp only [Bool.and_eq_true] at hg
   obtain rfl:=Nat.eq_of_beq_eq_true hg.1
   obtain rfl:=Nat.eq_of_beq_eq_true hg.2
   simp only [Option.some.injEq,Prod.mk.injEq,Bool.and_eq_true,decide_eq_true_eq] at h
   obtain ⟨⟨h1,h2,h3,h4⟩,rfl,rfl⟩:=h
   obtain rfl:=Nat.eq_of_beq_eq_true h1
   obtain rfl:=Nat.eq_of_beq_eq_true h2
   have hti:∃ ti,tinfo Tryz.prog 117=some ti∧ti.sz=3∧ti.agg=true:=by
    have h:(match tinfo Tryz.prog 117 with|some ti=>(ti.sz==3)&&ti.agg|none=>false)=true:=by kernel_rfl
    split at h
    · rename_i ti hti
      simp only [Bool.and_eq_true,beq_iff_eq] at h
      exact ⟨ti,hti,h.1,h.2⟩
    · simp at h
   obtain ⟨ti,hti,hz,ha⟩:=hti
   have hgd:=xuR (P:=Tryz.prog) (Inv:=ITryz) Tryz.srl129 3 (by decide) (fun w=>by rw [←ha];exact xpu hti w) (fun w=>by rw [←hz];exact xfk hti w)
    intsE (fun _=>rfl) cmpE swoE 130 (xeI Tryz.func129 rfl (by kernel_rfl)) (xn3 (xeI Tryz.func130 rfl (by kernel_rfl)))
    (fun x y W=>Tryz.walkE _ _ _ _ _ _ (cmpE x y) (by
     have:=x.1.isLt
     have:=y.1.isLt
     unfold cmpE
     exact xdD (by omega) (by omega)) W)
    ver 117 rfl (xs.map decE) (by simpa using h3)
   rw [List.length_map,xQ4 h4] at hgd
   exact hgd
 · simp at h
end Go.Sim.M
namespace Go.Sim.M
abbrev TyS:Type:=Fin 1099511627777×Int
def intsS (x:TyS):List Int:=[(x.1.val:Int),x.2]
def cmpS (x y:TyS):Int:=(x.1.val:Int) - (y.1.val:Int)
end Go.Sim.M
namespace Go.Proofs
open Go.RowKit Go.Sim Go.Sim.M Go.Sort
set_option maxHeartbeats 1000000 in
theorem Tryz.walkS (a b a' b' r:Int) (hr:IntKind.i64.wrap (a - a')=r) (W:World):Calls Tryz.prog 96 #[.agg #[.int .i64 a,.int .i64 b],.agg #[.int .i64 a',.int .i64 b']] W fun e w'=>e=.returned (.int .i64 r)∧∃ q os',w'=Sort.grow (W.drewN q) os':=by
 go_enter Tryz.func96,Tryz.ntmps96
 go_wp2
 go_ret
 subst hr
 exact ⟨rfl,0,_,by rw [alloc_eq_grow,alloc_eq_grow,grow_grow];rfl⟩
end Go.Proofs
namespace Go.Sim.M
open Go.RowKit Go.Proofs Go.Sort
def isS:AV→Bool
 | .agg [.int .i64 a,.int .i64 _]=>decide (0≤a)&&decide (a≤1099511627776)
 | _=>false
def decS:AV→TyS
 | .agg [.int _ a,.int _ b]=>(Fin.ofNat 1099511627777 a.toNat,b)
 | _=>default
noncomputable def srtS (xs:List AV):List AV:=(pdqL cmpS (xs.map decS)).map (encI intsS)
theorem xSy {x:AV} (h:isS x=true):encI intsS (decS x)=x:=by
 unfold isS at h
 split at h
 · rename_i a b
   simp only [Bool.and_eq_true,decide_eq_true_eq] at h
   have:a.toNat % 1099511627777=a.toNat:=Nat.mod_eq_of_lt (by omega)
   simp only [decS,encI,intsS,List.map_cons,List.map_nil,Fin.ofNat,this,Int.toNat_of_nonneg h.1]
 · simp at h
theorem xQ7 {xs:List AV} (h:xs.all isS=true):(xs.map decS).map (encI intsS)=xs:=by
 rw [List.map_map]
 conv=>rhs;rw [←List.map_id xs]
 refine List.map_congr_left fun x hx=>?_
 exact xSy (List.all_eq_true.1 h x hx)
theorem ltS (x y:TyS):ltOf cmpS x y=decide (x.1.val<y.1.val):=by
 unfold ltOf cmpS
 by_cases h:x.1.val<y.1.val
 · rw [decide_eq_true h,decide_eq_true (by omega)]
 · rw [decide_eq_false h,decide_eq_false (by omega)]
theorem swoS:SWO (ltOf cmpS) where
 irrefl x:=by rw [ltS];simp
 trans x y z h1 h2:=by rw [ltS] at *;simp at *;omega
 ntrans x y z h1 h2:=by rw [ltS] at *;simp at *;omega
noncomputable def xJx:List AV→List Box→Option (Bool×AV×List Box)
 | [.osl (.b 0) ver 0 n,.func g []],[⟨ver',2,ty,xs,false,true⟩]=>match Nat.beq g 96&&Nat.beq ty 75 with
  | true=>some (Nat.beq ver ver'&&(Nat.beq n xs.length&&(decide (n<4611686018427387904)&&xs.all isS)),.tuple [],[⟨ver',2,75,srtS xs,false,true⟩])
  | false=>none
 | _,_=>none
theorem xUj:OmOk Tryz.prog ITryz 95 xJx:=fun ass H r H' h=>by
 unfold xJx at h
 split at h
 · rename_i ver n g ver' ty xs
   split at h
   case h_2=>simp at h
   rename_i hg
   simp only [Bool.and_eq_true] at hg
   obtain rfl:=Nat.eq_of_beq_eq_true hg.1
   obtain rfl:=Nat.eq_of_beq_eq_true hg.2
   simp only [Option.some.injEq,Prod.mk.injEq,Bool.and_eq_true,decide_eq_true_eq] at h
   obtain ⟨⟨h1,h2,h3,h4⟩,rfl,rfl⟩:=h
   obtain rfl:=Nat.eq_of_beq_eq_true h1
   obtain rfl:=Nat.eq_of_beq_eq_true h2
   have hti:∃ ti,tinfo Tryz.prog 75=some ti∧ti.sz=2∧ti.agg=true:=by
    have h:(match tinfo Tryz.prog 75 with|some ti=>(ti.sz==2)&&ti.agg|none=>false)=true:=by kernel_rfl
    split at h
    · rename_i ti hti
      simp only [Bool.and_eq_true,beq_iff_eq] at h
      exact ⟨ti,hti,h.1,h.2⟩
    · simp at h
   obtain ⟨ti,hti,hz,ha⟩:=hti
   have hgd:=xuR (P:=Tryz.prog) (Inv:=ITryz) Tryz.srl95 2 (by decide) (fun w=>by rw [←ha];exact xpu hti w) (fun w=>by rw [←hz];exact xfk hti w)
    intsS (fun _=>rfl) cmpS swoS 96 (xeI Tryz.func95 rfl (by kernel_rfl)) (xn3 (xeI Tryz.func96 rfl (by kernel_rfl)))
    (fun x y W=>Tryz.walkS _ _ _ _ (cmpS x y) (by
     have:=x.1.isLt
     have:=y.1.isLt
     unfold cmpS
     exact xdD (by omega) (by omega)) W)
    ver 75 rfl (xs.map decS) (by simpa using h3)
   rw [List.length_map,xQ7 h4] at hgd
   exact hgd
 · simp at h
end Go.Sim.M
namespace Go.Sim.M
abbrev TyP:Type:=Int×Int
def intsP (x:TyP):List Int:=[x.1,x.2]
def cmpP (x y:TyP):Int:=orI (cmpI x.1 y.1) (cmpI x.2 y.2)
end Go.Sim.M
namespace Go.Sim.M
open Go.RowKit Go.Proofs Go.Sort
def isP:AV→Bool
 | .agg [.int .i64 _,.int .i64 _]=>true
 | _=>false
def decP:AV→TyP
 | .agg [.int _ a,.int _ b]=>(a,b)
 | _=>default
noncomputable def srtP (xs:List AV):List AV:=(pdqL cmpP (xs.map decP)).map (encI intsP)
theorem xSw {x:AV} (h:isP x=true):encI intsP (decP x)=x:=by
 unfold isP at h
 split at h
 · rfl
 · simp at h
theorem xQ6 {xs:List AV} (h:xs.all isP=true):(xs.map decP).map (encI intsP)=xs:=by
 rw [List.map_map]
 conv=>rhs;rw [←List.map_id xs]
 refine List.map_congr_left fun x hx=>?_
 exact xSw (List.all_eq_true.1 h x hx)
theorem ltP (x y:TyP):ltOf cmpP x y=decide (x.1<y.1∨x.1=y.1∧x.2<y.2):=by
 unfold ltOf cmpP orI cmpI
 by_cases h:x.1<y.1∨x.1=y.1∧x.2<y.2
 · rw [decide_eq_true h]
   simp only [decide_eq_true_eq]
   rcases h with h|⟨h,h'⟩
   · simp [h]
   · simp [h,h']
 · rw [decide_eq_false h]
   simp only [decide_eq_false_iff_not]
   have h1:¬ x.1<y.1:=fun e=>h (.inl e)
   by_cases h2:y.1<x.1
   · simp [h1,h2]
   · have h3:x.1=y.1:=by omega
     have h4:¬ x.2<y.2:=fun e=>h (.inr ⟨h3,e⟩)
     by_cases h5:y.2<x.2
     · simp [h1,h2,h4,h5]
     · simp [h1,h2,h4,h5]
theorem swoP:SWO (ltOf cmpP) where
 irrefl x:=by rw [ltP];simp
 trans x y z h1 h2:=by rw [ltP] at *;simp only [decide_eq_true_eq] at *;omega
 ntrans x y z h1 h2:=by rw [ltP] at *;simp only [decide_eq_true_eq,decide_eq_false_iff_not] at *;omega
noncomputable def xJZ:List AV→List Box→Option (Bool×AV×List Box)
 | [.osl (.b 0) ver 0 n,.func g []],[⟨ver',2,ty,xs,false,true⟩]=>match Nat.beq g 70&&Nat.beq ty 31 with
  | true=>some (Nat.beq ver ver'&&(Nat.beq n xs.length&&(decide (n<4611686018427387904)&&xs.all isP)),.tuple [],[⟨ver',2,31,srtP xs,false,true⟩])
  | false=>none
 | _,_=>none
theorem xUi:OmOk Tryz.prog ITryz 69 xJZ:=fun ass H r H' h=>by
 unfold xJZ at h
 split at h
 · rename_i ver n g ver' ty xs
   split at h
   case h_2=>simp at h
   rename_i hg
   simp only [Bool.and_eq_true] at hg
   obtain rfl:=Nat.eq_of_beq_eq_true hg.1
   obtain rfl:=Nat.eq_of_beq_eq_true hg.2
   simp only [Option.some.injEq,Prod.mk.injEq,Bool.and_eq_true,decide_eq_true_eq] at h
   obtain ⟨⟨h1,h2,h3,h4⟩,rfl,rfl⟩:=h
   obtain rfl:=Nat.eq_of_beq_eq_true h1
   obtain rfl:=Nat.eq_of_beq_eq_true h2
   have hti:∃ ti,tinfo Tryz.prog 31=some ti∧ti.sz=2∧ti.agg=true:=by
    have h:(match tinfo Tryz.prog 31 with|some ti=>(ti.sz==2)&&ti.agg|none=>false)=true:=by kernel_rfl
    split at h
    · rename_i ti hti
      simp only [Bool.and_eq_true,beq_iff_eq] at h
      exact ⟨ti,hti,h.1,h.2⟩
    · simp at h
   obtain ⟨ti,hti,hz,ha⟩:=hti
   have hgd:=xuR (P:=Tryz.prog) (Inv:=ITryz) Tryz.srl69 2 (by decide) (fun w=>by rw [←ha];exact xpu hti w) (fun w=>by rw [←hz];exact xfk hti w)
    intsP (fun _=>rfl) cmpP swoP 70 (xeI Tryz.func69 rfl (by kernel_rfl)) (xn3 (xeI Tryz.func70 rfl (by kernel_rfl)))
    (fun x y W=>Tryz.levels2_walk _ _ _ _ W)
    ver 31 rfl (xs.map decP) (by simpa using h3)
   rw [List.length_map,xQ6 h4] at hgd
   exact hgd
 · simp at h
end Go.Sim.M
namespace Go.Sim.M
open Go.RowKit Go.Proofs Go.Sort
def isI:AV→Bool
 | .int .i64 _=>true
 | _=>false
noncomputable def srtI (xs:List AV):List AV:=(pdqL cmpI (xs.map AV.toInt)).map (AV.int .i64)
theorem xQ5 {xs:List AV} (h:xs.all isI=true):(xs.map AV.toInt).map (AV.int .i64)=xs:=by
 rw [List.map_map]
 conv=>rhs;rw [←List.map_id xs]
 refine List.map_congr_left fun x hx=>?_
 have:=List.all_eq_true.1 h x hx
 unfold isI at this
 split at this
 · rfl
 · simp at this
theorem ltI (x y:Int):ltOf cmpI x y=decide (x<y):=by
 unfold ltOf cmpI
 by_cases h:x<y
 · simp [h]
 · by_cases h2:y<x<;>simp [h,h2]
theorem swoI:SWO (ltOf cmpI) where
 irrefl x:=by rw [ltI];simp
 trans x y z h1 h2:=by rw [ltI] at *;simp at *;omega
 ntrans x y z h1 h2:=by rw [ltI] at *;simp at *;omega
noncomputable def xJY:List AV→List Box→Option (Bool×AV×List Box)
 | [.osl (.b 0) ver 0 n,.func g []],[⟨ver',1,ty,xs,false,true⟩]=>match Nat.beq g 54&&Nat.beq ty 3 with
  | true=>some (Nat.beq ver ver'&&(Nat.beq n xs.length&&(decide (n<4611686018427387904)&&xs.all isI)),.tuple [],[⟨ver',1,3,srtI xs,false,true⟩])
  | false=>none
 | _,_=>none
theorem xUh:OmOk Tryz.prog ITryz 53 xJY:=fun ass H r H' h=>by
 unfold xJY at h
 split at h
 · rename_i ver n g ver' ty xs
   split at h
   case h_2=>simp at h
   rename_i hg
   simp only [Bool.and_eq_true] at hg
   obtain rfl:=Nat.eq_of_beq_eq_true hg.1
   obtain rfl:=Nat.eq_of_beq_eq_true hg.2
   simp only [Option.some.injEq,Prod.mk.injEq,Bool.and_eq_true,decide_eq_true_eq] at h
   obtain ⟨⟨h1,h2,h3,h4⟩,rfl,rfl⟩:=h
   obtain rfl:=Nat.eq_of_beq_eq_true h1
   obtain rfl:=Nat.eq_of_beq_eq_true h2
   have hgd:=xJX (P:=Tryz.prog) (Inv:=ITryz) Tryz.srl53 cmpI swoI 54 (xeI Tryz.func53 rfl (by kernel_rfl)) (xn3 (xeI Tryz.func54 rfl (by kernel_rfl)))
    (fun x y W=>(Tryz.cmp_walk x y W).mono fun e w' ⟨h1,h2⟩=>⟨h1,0,#[],by rw [h2];exact (grow_empty _).symm⟩)
    ver 3 rfl (xs.map AV.toInt) (by simpa using h3)
   rw [List.length_map,xQ5 h4] at hgd
   exact hgd
 · simp at h
end Go.Sim.M
end
noncomputable section
namespace Go.Sim.M
open Go.RowKit Go.Proofs
noncomputable def E1:Env:=(((EKG.withM 129 xJW).withM 95 xJx).withM 69 xJZ).withM 53 xJY
theorem xTb:OrcOk Tryz.prog ITryz E1:=(((xUs.withM xUg).withM xUj).withM xUi).withM xUh
end Go.Sim.M
end
noncomputable section
set_option maxRecDepth 100000
namespace Go.Sim.M
open Go.IntKind (i64 u64 u8)
open Go.RowKit Go.Proofs
def xo0:Env:=E1.fn 29 1 (lsOf []) (lpsOf [])
theorem xID:OrcOk Tryz.prog (ITryz.at 1) xo0:=xTb.fn
theorem xFs:LoOk Tryz.prog (ITryz.at xo0.pin) xo0 (Tryz.f97.body.getD .skip):=xaq (by kernel_rfl)
def xy9 {T:Type} (k:Nat) (b n:Int) (a:LA) (δ:T) (κ:Bool×(Nat×LA)×(Nat×LA)→T):T:=br (decide ((↑k:Int)>0)) (br (decide (0≤i64.wrap ((↑k:Int) - 1))&&decide (i64.wrap ((↑k:Int) - 1)<(↑k:Int))) (br (decide (0+(i64.wrap ((↑k:Int) - 1)).toNat<a.length)&&hasSh1 (Sh.int .i64) ((a.getD (0+(i64.wrap ((↑k:Int) - 1)).toNat) .top).cells.getD 1 .top)) (br (((a.getD (0+(i64.wrap ((↑k:Int) - 1)).toNat) .top).cells.getD 1 .top).toInt==n) (κ (true,(k,a),(0,[]))) (br (k==a.length&&(decide ((k+1)*16≤140737488355328)&&decide (k+1≤4611686018427387904))) (κ (false,(0,[]),(k+1,a++[AV.agg [AV.int .i64 b,AV.int .i64 n]]))) δ)) δ) δ) (br (k==a.length&&(decide ((k+1)*16≤140737488355328)&&decide (k+1≤4611686018427387904))) (κ (false,(0,[]),(k+1,a++[AV.agg [AV.int .i64 b,AV.int .i64 n]]))) δ)
def xfp (k:Nat) (a n:Int) (b:LA):Option (Bool×(Nat×LA)×(Nat×LA)):=xy9 k a n b none some
theorem xOf (k:Nat) (a n:Int) (xs:LA):Enc (fun (p:Bool×(Nat×LA)×(Nat×LA))=>((br p.1 ((AV.osl 0 0 0 p.2.1.1,([⟨0,2,75,p.2.1.2,false,true⟩]:List Box))) ((AV.osl 0 1 0 p.2.2.1,([⟨1,2,75,p.2.2.2,false,true⟩]:List Box)))):(AV×List Box))) (xfp k a n xs) (XFM Tryz.prog xo0 Tryz.f97 (Tryz.f97.body.getD .skip) [AV.osl (0:Id) 0 0 k,AV.int .i64 a,AV.int .i64 n] [{ ver:=0,sz:=2,ty:=(75:TypeId),xs:=xs,frz:=false,pm:=true }]):=by
 refine eV (xy9 k a n xs none (fun (p:Bool×(Nat×LA)×(Nat×LA))=>some ((br p.1 ((AV.osl 0 0 0 p.2.1.1,([⟨0,2,75,p.2.1.2,false,true⟩]:List Box))) ((AV.osl 0 1 0 p.2.2.1,([⟨1,2,75,p.2.2.2,false,true⟩]:List Box)))):(AV×List Box)))) (by kernel_rfl) ?_;unfold xfp xy9;repeat' first|exact eN|exact eS rfl|apply eB
def xFZ:LA→List Box→Option (Bool×AV×List Box):=omOf (sCons (sEq (pOsl 0 0 0)) (sCons (sEq (pInt .i64)) (sCons (sEq (pInt .i64)) sNil))) (pCons (pBox 0 2 (75:TypeId) false true pAny) pNil) fun (k,(a,(n,_))) (b,_)=>((xfp k a n b).isSome,(AV.osl 0 1 0 (br ((xfp k a n b).getD (false,(0,[]),(0,[]))).1 ((xfp k a n b).getD (false,(0,[]),(0,[]))).2.1.1 ((xfp k a n b).getD (false,(0,[]),(0,[]))).2.2.1),([⟨1,2,75,(br ((xfp k a n b).getD (false,(0,[]),(0,[]))).1 ((xfp k a n b).getD (false,(0,[]),(0,[]))).2.1.2 ((xfp k a n b).getD (false,(0,[]),(0,[]))).2.2.2),false,true⟩]:List Box)))
theorem xOe:OmOk Tryz.prog ITryz 97 (xFZ):=xfA fun e f j i g=>by
 obtain ⟨k,⟨b,⟨n,_⟩⟩⟩:=e
 obtain ⟨h,_⟩:=f
 obtain ⟨c,a⟩:=Prod.mk.inj g
 have hx:=xOf _ _ _ _ _ (xab (d:=(false,(0,[]),(0,[]))) c)
 revert hx a
 generalize ((xfp k b n h).getD (false,(0,[]),(0,[])))=p
 intro a hx
 obtain ⟨rfl,rfl⟩:=Prod.mk.inj a
 obtain ⟨t,⟨l,m⟩,o,q⟩:=p
 have hg:GoodM Tryz.prog ITryz 97 _ _ _ _:=xdr (p:=xo0.pin) (xdI mxTryz (inv0Ok Tryz.prog _) rfl xID rfl Tryz.func97 rfl (by kernel_rfl) xFs hx)
 cases t
 · exact hg
 · exact GoodM.bump1 rfl (by decide) hg
def xvo:Env:=E1.withM 97 xFZ
theorem xq7:OrcOk Tryz.prog ITryz xvo:=xTb.withM xOe
def xnA:Env:=xvo.fn 106 0 (lsOf []) (lpsOf [])
theorem xJ4:OrcOk Tryz.prog (ITryz.at 0) xnA:=xq7.fn
theorem xD6:LoOk Tryz.prog (ITryz.at xnA.pin) xnA (loopAt Tryz.f72 0):=xaq (by kernel_rfl)
def xnr {T:Type} (d:LA) (e:Int) (a:Nat) (c:Int) (b:LA) (δ:T) (κl:(Nat×Int×LA)→T) (κr:(Nat×LA)→T):T:=br (decide (c<e)) (br (decide (0≤c)&&decide (c<d.length)) (br (decide (c.toNat<d.length)&&((d.getD c.toNat .top).cells.length==3&&hasShs [Sh.int .i64,Sh.int .i64,Sh.int .i64] (d.getD c.toNat .top).cells 0)) (br (xgd ((d.getD c.toNat .top).cells.getD 0 .top).toInt ((d.getD c.toNat .top).cells.getD 1 .top).toInt) (br (a==b.length&&(decide ((a+2)*16≤140737488355328)&&decide (a+2≤4611686018427387904))) (κl (a+2,i64.wrap (c+1),b++[AV.agg [AV.int .i64 ((d.getD c.toNat .top).cells.getD 0 .top).toInt,AV.int .i64 ((d.getD c.toNat .top).cells.getD 2 .top).toInt],AV.agg [AV.int .i64 ((d.getD c.toNat .top).cells.getD 1 .top).toInt,AV.int .i64 (i64.wrap (0 - ((d.getD c.toNat .top).cells.getD 2 .top).toInt))]])) δ) (κl (a,i64.wrap (c+1),b))) δ) δ) (κr (a,b))
def xdW (c:LA) (d:Int):(Nat×Int×LA)→Option ((Nat×Int×LA)⊕(Nat×LA)):=fun (b,e,a)=>xnr c d b e a none (fun s=>some (.inl s)) (fun p=>some (.inr p))
def xkL (c:LA) (d:Int):(Nat×Int×LA)→LA×List Box:=fun (b,e,a)=>([AV.osl 0 0 0 b,AV.list 3 c,AV.int .i64 d,AV.int .i64 e],[⟨0,2,75,a,false,true⟩])
def xi9 (a:LA) (b:Int):(Nat×LA)→LR:=fun p=>(.leaf (.exit 0) [AV.osl 0 0 0 p.1] [⟨0,2,75,p.2,false,true⟩])
abbrev xLy (a:LA) (H:List Box):=XR Tryz.prog xnA [3,10,11,12] [3] [(3,2,75)] (loopAt Tryz.f72 0) a H
theorem xLz (a:LA) (b:Int) (s:Nat×Int×LA):Enc (encR (xkL a b) (xi9 a b)) (xdW a b s) (xLy (xkL a b s).1 (xkL a b s).2):=by
 obtain ⟨d,e,c⟩:=s
 refine eV (xnr a b d e c none (fun s=>some (encR (xkL a b) (xi9 a b) (.inl s))) (fun p=>some (encR (xkL a b) (xi9 a b) (.inr p)))) (by kernel_rfl) ?_;unfold xdW xnr;repeat' first|exact eN|exact eS rfl|apply eB
def xmI:Lp:=lpOf [3,10,11,12] [3] [(3,2,75)] (pCons (pOsl 0 0 0) (pCons (pList 3 pAny) (pCons (pInt .i64) (pCons (pInt .i64) pNil)))) (pCons (pBox 0 2 75 false true pAny) pNil) fun (b,(c,(d,(e,_)))) (a,_)=>((Iter (xdW c d) (b,e,a)).isSome,xi9 c d ((Iter (xdW c d) (b,e,a)).getD (0,[])))
theorem xIz:LoopOk Tryz.prog (ITryz.at xnA.pin) xnA.nt (loopAt Tryz.f72 0) xmI:=xaP fun g h j i=>by
 obtain ⟨b,⟨c,⟨d,⟨e,_⟩⟩⟩⟩:=g
 obtain ⟨a,_⟩:=h
 obtain ⟨f,rfl⟩:=Prod.mk.inj i
 exact xar mxTryz (inv0Ok Tryz.prog _) rfl xJ4 xD6 (xkL c d) (xi9 c d) (fun p=>by simp only [xi9,LR.eval];first|(simp;done)|(repeat' split<;>simp)) (xLz c d) (s:=(b,e,a)) (xab f)
def xnB:Env:=xvo.fn 106 0 (lsOf []) (lpsOf [(3,xmI)])
theorem xJ5:OrcOk Tryz.prog (ITryz.at 0) xnB:=xq7.fn
theorem xD7:LoOk Tryz.prog (ITryz.at xnB.pin) xnB (loopAt Tryz.f72 1):=xaq (by kernel_rfl)
def xAd (i:Int) (a:LA):=decide (0+i.toNat<a.length)
def xuS {T:Type} (b e:Nat) (d i:Int) (a c:LA) (δ:T) (κl:(Int×Int×LA×LA)→T) (κr:(Int×Int×LA×LA)→T):T:=br (decide (i<(↑b:Int))) (br (decide (0≤i)&&decide (i<(↑b:Int))) (br (xAd i a&&hasSh1 (Sh.int .i64) ((a.getD (0+i.toNat) .top).cells.getD 0 .top)) (br (((a.getD (0+i.toNat) .top).cells.getD 0 .top).toInt==0) (br (decide (0≤i)&&decide (i<(↑b:Int))) (br (xAd i a&&hasSh1 (Sh.int .i64) ((a.getD (0+i.toNat) .top).cells.getD 1 .top)) (κl (i64.wrap (d+((a.getD (0+i.toNat) .top).cells.getD 1 .top).toInt),i64.wrap (i+1),a,c)) δ) δ) (κr (d,i,a,c))) δ) δ) (κr (d,i,a,c))
def xgm (b d:Nat):(Int×Int×LA×LA)→Option ((Int×Int×LA×LA)⊕(Int×Int×LA×LA)):=fun (e,i,a,c)=>xuS b d e i a c none (fun s=>some (.inl s)) (fun p=>some (.inr p))
def xkM (b d:Nat):(Int×Int×LA×LA)→LA×List Box:=fun (e,i,a,c)=>([AV.osl 0 0 0 b,AV.osl 1 0 0 d,AV.int .i64 e,AV.int .i64 i],[⟨0,2,75,a,false,true⟩,⟨0,2,75,c,false,true⟩])
def xja (a b:Nat):(Int×Int×LA×LA)→LR:=fun p=>(.leaf (.exit 2) [AV.osl 0 0 0 a,AV.osl 1 0 0 b,AV.int .i64 p.1,AV.int .i64 p.2.1] [⟨0,2,75,p.2.2.1,false,true⟩,⟨0,2,75,p.2.2.2,false,true⟩])
abbrev xLA (a:LA) (H:List Box):=XR Tryz.prog xnB [3,6,7,8] [3,6,7,8] [(3,2,75),(6,2,75)] (loopAt Tryz.f72 1) a H
theorem xLB (a b:Nat) (s:Int×Int×LA×LA):Enc (encR (xkM a b) (xja a b)) (xgm a b s) (xLA (xkM a b s).1 (xkM a b s).2):=by
 obtain ⟨e,i,c,d⟩:=s
 refine eV (xuS a b e i c d none (fun s=>some (encR (xkM a b) (xja a b) (.inl s))) (fun p=>some (encR (xkM a b) (xja a b) (.inr p)))) (by kernel_rfl) ?_;unfold xgm xuS;repeat' first|exact eN|exact eS rfl|apply eB
def xpH:Lp:=lpOf [3,6,7,8] [3,6,7,8] [(3,2,75),(6,2,75)] (pCons (pOsl 0 0 0) (pCons (pOsl 1 0 0) (pCons (pInt .i64) (pCons (pInt .i64) pNil)))) (pCons (pBox 0 2 75 false true pAny) (pCons (pBox 0 2 75 false true pAny) pNil)) fun (a,(c,(e,(i,_)))) (b,(d,_))=>((Iter (xgm a c) (e,i,b,d)).isSome,xja a c ((Iter (xgm a c) (e,i,b,d)).getD (0,0,[],[])))
theorem xIA:LoopOk Tryz.prog (ITryz.at xnB.pin) xnB.nt (loopAt Tryz.f72 1) xpH:=xaP fun g h k j=>by
 obtain ⟨a,⟨b,⟨e,⟨i,_⟩⟩⟩⟩:=g
 obtain ⟨c,⟨d,_⟩⟩:=h
 obtain ⟨f,rfl⟩:=Prod.mk.inj j
 exact xar mxTryz (inv0Ok Tryz.prog _) rfl xJ5 xD7 (xkM a b) (xja a b) (fun p=>by simp only [xja,LR.eval];first|(simp;done)|(repeat' split<;>simp)) (xLB a b) (s:=(e,i,c,d)) (xab f)
def xnC:Env:=xvo.fn 106 0 (lsOf []) (lpsOf [(3,xmI),(11,xpH)])
theorem xJ6:OrcOk Tryz.prog (ITryz.at 0) xnC:=xq7.fn
theorem xD8:LoOk Tryz.prog (ITryz.at xnC.pin) xnC (loopAt Tryz.f72 3):=xaq (by kernel_rfl)
def xmT (i:Int) (a:LA):=decide (0+i.toNat<a.length)
def xkQ {T:Type} (b f:Nat) (e d i:Int) (a c:LA) (δ:T) (κl:(Int×Int×LA×LA)→T) (κr:(Int×Int×LA×LA)→T):T:=br (decide (i<(↑b:Int))) (br (decide (0≤i)&&decide (i<(↑b:Int))) (br (xmT i a&&hasSh1 (Sh.int .i64) ((a.getD (0+i.toNat) .top).cells.getD 0 .top)) (br (((a.getD (0+i.toNat) .top).cells.getD 0 .top).toInt==e) (br (decide (0≤i)&&decide (i<(↑b:Int))) (br (xmT i a&&hasSh1 (Sh.int .i64) ((a.getD (0+i.toNat) .top).cells.getD 1 .top)) (κl (i64.wrap (d+((a.getD (0+i.toNat) .top).cells.getD 1 .top).toInt),i64.wrap (i+1),a,c)) δ) δ) (κr (d,i,a,c))) δ) δ) (κr (d,i,a,c))
def xdk (b d:Nat) (e:Int):(Int×Int×LA×LA)→Option ((Int×Int×LA×LA)⊕(Int×Int×LA×LA)):=fun (f,i,a,c)=>xkQ b d e f i a c none (fun s=>some (.inl s)) (fun p=>some (.inr p))
def xkP (b d:Nat) (e:Int):(Int×Int×LA×LA)→LA×List Box:=fun (f,i,a,c)=>([AV.osl 0 0 0 b,AV.osl 1 0 0 d,AV.int .i64 f,AV.int .i64 i,AV.int .i64 e],[⟨0,2,75,a,false,true⟩,⟨0,2,75,c,false,true⟩])
def xjd (a b:Nat) (c:Int):(Int×Int×LA×LA)→LR:=fun p=>(.leaf (.exit 6) [AV.osl 0 0 0 a,AV.osl 1 0 0 b,AV.int .i64 p.1,AV.int .i64 p.2.1,AV.int .i64 c] [⟨0,2,75,p.2.2.1,false,true⟩,⟨0,2,75,p.2.2.2,false,true⟩])
abbrev xLE (a:LA) (H:List Box):=XR Tryz.prog xnC [3,6,7,8,9] [3,6,7,8,9] [(3,2,75),(6,2,75)] (loopAt Tryz.f72 3) a H
theorem xLF (a b:Nat) (c:Int) (s:Int×Int×LA×LA):Enc (encR (xkP a b c) (xjd a b c)) (xdk a b c s) (xLE (xkP a b c s).1 (xkP a b c s).2):=by
 obtain ⟨f,i,d,e⟩:=s
 refine eV (xkQ a b c f i d e none (fun s=>some (encR (xkP a b c) (xjd a b c) (.inl s))) (fun p=>some (encR (xkP a b c) (xjd a b c) (.inr p)))) (by kernel_rfl) ?_;unfold xdk xkQ;repeat' first|exact eN|exact eS rfl|apply eB
def xtC:Lp:=lpOf [3,6,7,8,9] [3,6,7,8,9] [(3,2,75),(6,2,75)] (pCons (pOsl 0 0 0) (pCons (pOsl 1 0 0) (pCons (pInt .i64) (pCons (pInt .i64) (pCons (pInt .i64) pNil))))) (pCons (pBox 0 2 75 false true pAny) (pCons (pBox 0 2 75 false true pAny) pNil)) fun (a,(c,(f,(i,(e,_))))) (b,(d,_))=>((Iter (xdk a c e) (f,i,b,d)).isSome,xjd a c e ((Iter (xdk a c e) (f,i,b,d)).getD (0,0,[],[])))
theorem xw4:LoopOk Tryz.prog (ITryz.at xnC.pin) xnC.nt (loopAt Tryz.f72 3) xtC:=xaP fun h j l k=>by
 obtain ⟨a,⟨b,⟨f,⟨i,⟨d,_⟩⟩⟩⟩⟩:=h
 obtain ⟨c,⟨e,_⟩⟩:=j
 obtain ⟨g,rfl⟩:=Prod.mk.inj k
 exact xar mxTryz (inv0Ok Tryz.prog _) rfl xJ6 xD8 (xkP a b d) (xjd a b d) (fun p=>by simp only [xjd,LR.eval];first|(simp;done)|(repeat' split<;>simp)) (xLF a b d) (s:=(f,i,c,e)) (xab g)
def xnD:Env:=xvo.fn 106 0 (lsOf []) (lpsOf [(3,xmI),(11,xpH),(17,xtC)])
theorem xJ7:OrcOk Tryz.prog (ITryz.at 0) xnD:=xq7.fn
theorem xD9:LoOk Tryz.prog (ITryz.at xnD.pin) xnD (loopAt Tryz.f72 2):=xaM (ls:=[loopAt Tryz.f72 3]) (by kernel_rfl) (lkC xw4 lkN)
def xlJ (i:Int) (a:LA):=decide (0+i.toNat<a.length)&&hasSh1 (Sh.int .i64) ((a.getD (0+i.toNat) .top).cells.getD 0 .top)
def xjc (i:Int) (a:LA):=((a.getD (0+i.toNat) .top).cells.getD 0 .top).toInt
def xlK (b d:Nat) (e i:Int) (a c:LA):=Iter (xdk b d (xjc i a)) (e,i,a,c)
def xmS (b d:Nat) (e i:Int) (a c:LA):=(xlK b d e i a c).getD (0,0,[],[])
def xmQ (b d:Nat) (e i:Int) (a c:LA):=(xmS b d e i a c).fst
def xmR (b d:Nat) (e i:Int) (a c:LA):=(xmS b d e i a c).snd
def xmP (b d:Nat) (e i:Int) (a c:LA):=(xmR b d e i a c).snd
def xmO (b c:Nat) (e i:Int) (a d:LA):=xfp c (xjc i a) (xmQ b c e i a d) (xmP b c e i a d).snd
def xmN (b d:Nat) (e i:Int) (a c:LA):=(xmO b d e i a c).getD (false,(0,[]),0,[])
def xmL (b d:Nat) (e i:Int) (a c:LA):=(xmN b d e i a c).fst
def xmM (b d:Nat) (e i:Int) (a c:LA):=(xmN b d e i a c).snd
def xmJ (b d:Nat) (e i:Int) (a c:LA):=(xmM b d e i a c).fst
def xmK (b d:Nat) (e i:Int) (a c:LA):=(xmM b d e i a c).snd
def xkO {T:Type} (b d:Nat) (e i:Int) (a c:LA) (δ:T) (κl:(Nat×Int×Int×LA×LA)→T) (κr:(Nat×LA)→T):T:=br (decide (i<(↑b:Int))) (br (decide (0≤i)&&decide (i<(↑b:Int))) (br (xlJ i a) (br (decide (xjc i a<1099511627776)) (br (decide (0≤i)&&decide (i<(↑b:Int))) (br (xlJ i a) (br ((xlK b d e i a c).isSome) (br ((xmO b d e i a c).isSome) (κl (br (xmL b d e i a c) (xmJ b d e i a c).fst (xmK b d e i a c).fst,xmQ b d e i a c,(xmR b d e i a c).fst,(xmP b d e i a c).fst,br (xmL b d e i a c) (xmJ b d e i a c).snd (xmK b d e i a c).snd)) δ) δ) δ) δ) (κr (d,c))) δ) δ) (κr (d,c))
def xdX (b:Nat):(Nat×Int×Int×LA×LA)→Option ((Nat×Int×Int×LA×LA)⊕(Nat×LA)):=fun (d,e,i,a,c)=>xkO b d e i a c none (fun s=>some (.inl s)) (fun p=>some (.inr p))
def xkN (b:Nat):(Nat×Int×Int×LA×LA)→LA×List Box:=fun (d,e,i,a,c)=>([AV.osl 0 0 0 b,AV.osl 1 0 0 d,AV.int .i64 e,AV.int .i64 i],[⟨0,2,75,a,false,true⟩,⟨0,2,75,c,false,true⟩])
def xjb (a:Nat):(Nat×LA)→LR:=fun p=>(.leaf (.exit 4) [AV.osl 0 0 0 p.1] [⟨0,2,75,p.2,false,true⟩])
abbrev xLC (a:LA) (H:List Box):=XR Tryz.prog xnD [3,6,7,8] [6] [(3,2,75),(6,2,75)] (loopAt Tryz.f72 2) a H
theorem xLD (a:Nat) (s:Nat×Int×Int×LA×LA):Enc (encR (xkN a) (xjb a)) (xdX a s) (xLC (xkN a s).1 (xkN a s).2):=by
 obtain ⟨d,e,i,b,c⟩:=s
 refine eV (xkO a d e i b c none (fun s=>some (encR (xkN a) (xjb a) (.inl s))) (fun p=>some (encR (xkN a) (xjb a) (.inr p)))) (by kernel_rfl) ?_;unfold xdX xkO;repeat' first|exact eN|exact eS rfl|apply eB
def xAe:Lp:=lpOf [3,6,7,8] [6] [(3,2,75),(6,2,75)] (pCons (pOsl 0 0 0) (pCons (pOsl 1 0 0) (pCons (pInt .i64) (pCons (pInt .i64) pNil)))) (pCons (pBox 0 2 75 false true pAny) (pCons (pBox 0 2 75 false true pAny) pNil)) fun (a,(d,(e,(i,_)))) (b,(c,_))=>((Iter (xdX a) (d,e,i,b,c)).isSome,xjb a ((Iter (xdX a) (d,e,i,b,c)).getD (0,[])))
theorem xIB:LoopOk Tryz.prog (ITryz.at xnD.pin) xnD.nt (loopAt Tryz.f72 2) xAe:=xaP fun g h k j=>by
 obtain ⟨a,⟨d,⟨e,⟨i,_⟩⟩⟩⟩:=g
 obtain ⟨b,⟨c,_⟩⟩:=h
 obtain ⟨f,rfl⟩:=Prod.mk.inj j
 exact xar mxTryz (inv0Ok Tryz.prog _) rfl xJ7 xD9 (xkN a) (xjb a) (fun p=>by simp only [xjb,LR.eval];first|(simp;done)|(repeat' split<;>simp)) (xLD a) (s:=(d,e,i,b,c)) (xab f)
def xql:Env:=xvo.fn 106 0 (lsOf []) (lpsOf [(3,xmI),(11,xpH),(17,xtC),(15,xAe)])
theorem xJ8:OrcOk Tryz.prog (ITryz.at 0) xql:=xq7.fn
theorem xGV:LoOk Tryz.prog (ITryz.at xql.pin) xql (Tryz.f72.body.getD .skip):=xaM (ls:=[loopAt Tryz.f72 0,loopAt Tryz.f72 1,loopAt Tryz.f72 2,loopAt Tryz.f72 3]) (by kernel_rfl) (lkC xIz (lkC xIA (lkC xIB (lkC xw4 lkN))))
def xwd (l:LA):=(Iter (xdW l (↑l.length:Int)) (0,0,[])).getD (0,[])
def xox (l:LA):=(xwd l).fst
def xsJ (l:LA):=(xwd l).snd
def xwc (l:LA):=Iter (xgm (xox l) 0) (0,0,srtS (xsJ l),[])
def xwb (l:LA):=(xwc l).getD (0,0,[],[])
def xv9 (l:LA):=(xwb l).fst
def xwa (l:LA):=(xwb l).snd
def xv8 (l:LA):=(xwa l).snd
def xy8 (l:LA):=xfp 0 0 (xv9 l) (xv8 l).snd
def xy7 (l:LA):=(xy8 l).getD (false,(0,[]),0,[])
def xy5 (l:LA):=(xy7 l).fst
def xy6 (l:LA):=(xy7 l).snd
def xy3 (l:LA):=(xy6 l).snd
def xy4 (l:LA):=(xy6 l).fst
def xy2 (l:LA):=Iter (xdX (xox l)) (br (xy5 l) (xy4 l).fst (xy3 l).fst,xv9 l,(xwa l).fst,(xv8 l).fst,br (xy5 l) (xy4 l).snd (xy3 l).snd)
def xy1 (l:LA):=(xy2 l).getD (0,[])
def xyx (l:LA):=(xy1 l).snd
def xy0 (l:LA):=(xy1 l).fst
def xvi {T:Type} (l:LA) (δ:T) (κ:LA→T):T:=br ((Iter (xdW l (↑l.length:Int)) (0,0,[])).isSome) (br ((xox l).beq (xsJ l).length&&(decide (xox l<4611686018427387904)&&(xsJ l).all isS)) (br ((xwc l).isSome) (br ((xy8 l).isSome) (br ((xy2 l).isSome) (br (decide (0+xy0 l≤(xyx l).length)&&true) (κ (List.take (xy0 l) (List.drop 0 (xyx l)))) δ) δ) δ) δ) δ) δ
def xoZ (l:LA):Option (LA):=xvi l none some
theorem xQb (l:LA):Enc (fun (p:LA)=>((AV.list 2 p):AV)) (xoZ l) (XF Tryz.prog xql Tryz.f72 (Tryz.f72.body.getD .skip) [AV.list 3 l]):=by
 refine eV (xvi l none (fun (p:LA)=>some ((AV.list 2 p):AV))) (by kernel_rfl) ?_;unfold xoZ xvi;repeat' first|exact eN|exact eS rfl|apply eB
def xIC:LA→Option (Bool×AV):=ocOf (sCons (sList 3 pAny) sNil) fun (l,_)=>((xoZ l).isSome,(AV.list 2 ((xoZ l).getD [])))
theorem xQa:OcOk Tryz.prog ITryz 72 (xIC):=xaL fun c f e=>by
 obtain ⟨l,_⟩:=c
 obtain ⟨a,b⟩:=Prod.mk.inj e
 refine xaI (p:=xql.pin) (xaK mxTryz (inv0Ok Tryz.prog _) rfl xJ8 Tryz.func72 rfl (by kernel_rfl) xGV ((xQb _ _ (xab (d:=[]) a)).trans ?_))
 exact congrArg some b
def xG0:Env:=xvo.with 72 xIC
theorem xCl:OrcOk Tryz.prog ITryz xG0:=xq7.with xQa
def xfu:Env:=xG0.fn 20 0 (lsOf []) (lpsOf [])
theorem xyk:OrcOk Tryz.prog (ITryz.at 0) xfu:=xCl.fn
theorem xuD:LoOk Tryz.prog (ITryz.at xfu.pin) xfu (loopAt Tryz.f45 0):=xaq (by kernel_rfl)
def xgt {T:Type} (d:LA) (e:Int) (b:Nat) (a:Int) (c:LA) (δ:T) (κl:(Nat×Int×LA)→T) (κr:(Nat×LA)→T):T:=br (decide (a<e)) (br (decide (0≤a)&&decide (a<d.length)) (br (decide (a.toNat<d.length)&&((d.getD a.toNat .top).cells.length==2&&hasShs [Sh.int .i64,Sh.int .i64] (d.getD a.toNat .top).cells 0)) (br (b==c.length&&(decide ((b+1)*24≤140737488355328)&&decide (b+1≤4611686018427387904))) (κl (b+1,i64.wrap (a+1),c++[AV.agg [AV.int .i64 ((d.getD a.toNat .top).cells.getD 0 .top).toInt,AV.int .i64 ((d.getD a.toNat .top).cells.getD 1 .top).toInt,AV.int .i64 1]])) δ) δ) δ) (κr (b,c))
def xby (c:LA) (d:Int):(Nat×Int×LA)→Option ((Nat×Int×LA)⊕(Nat×LA)):=fun (b,e,a)=>xgt c d b e a none (fun s=>some (.inl s)) (fun p=>some (.inr p))
def xez (c:LA) (d:Int):(Nat×Int×LA)→LA×List Box:=fun (b,e,a)=>([AV.osl 0 0 0 b,AV.list 2 c,AV.int .i64 d,AV.int .i64 e],[⟨0,3,78,a,false,true⟩])
def xdP (a:LA) (b:Int):(Nat×LA)→LR:=fun p=>(.leaf (.exit 0) [AV.osl 0 0 0 p.1] [⟨0,3,78,p.2,false,true⟩])
abbrev xzt (a:LA) (H:List Box):=XR Tryz.prog xfu [3,6,7,8] [3] [(3,3,78)] (loopAt Tryz.f45 0) a H
theorem xzu (a:LA) (b:Int) (s:Nat×Int×LA):Enc (encR (xez a b) (xdP a b)) (xby a b s) (xzt (xez a b s).1 (xez a b s).2):=by
 obtain ⟨d,e,c⟩:=s
 refine eV (xgt a b d e c none (fun s=>some (encR (xez a b) (xdP a b) (.inl s))) (fun p=>some (encR (xez a b) (xdP a b) (.inr p)))) (by kernel_rfl) ?_;unfold xby xgt;repeat' first|exact eN|exact eS rfl|apply eB
def xp7:Lp:=lpOf [3,6,7,8] [3] [(3,3,78)] (pCons (pOsl 0 0 0) (pCons (pList 2 pAny) (pCons (pInt .i64) (pCons (pInt .i64) pNil)))) (pCons (pBox 0 3 78 false true pAny) pNil) fun (b,(c,(d,(e,_)))) (a,_)=>((Iter (xby c d) (b,e,a)).isSome,xdP c d ((Iter (xby c d) (b,e,a)).getD (0,[])))
theorem xwh:LoopOk Tryz.prog (ITryz.at xfu.pin) xfu.nt (loopAt Tryz.f45 0) xp7:=xaP fun f g j h=>by
 obtain ⟨d,⟨a,⟨b,⟨i,_⟩⟩⟩⟩:=f
 obtain ⟨c,_⟩:=g
 obtain ⟨e,rfl⟩:=Prod.mk.inj h
 exact xar mxTryz (inv0Ok Tryz.prog _) rfl xyk xuD (xez a b) (xdP a b) (fun p=>by simp only [xdP,LR.eval];first|(simp;done)|(repeat' split<;>simp)) (xzu a b) (s:=(d,i,c)) (xab e)
def xhN:Env:=xG0.fn 20 0 (lsOf []) (lpsOf [(3,xp7)])
theorem xyl:OrcOk Tryz.prog (ITryz.at 0) xhN:=xCl.fn
theorem xvv:LoOk Tryz.prog (ITryz.at xhN.pin) xhN (Tryz.f45.body.getD .skip):=xaM (ls:=[loopAt Tryz.f45 0]) (by kernel_rfl) (lkC xwh lkN)
def xnQ (l:LA):=(Iter (xby l (↑l.length:Int)) (0,0,[])).getD (0,[])
def xnO (l:LA):=(xnQ l).snd
def xnP (l:LA):=(xnQ l).fst
def xnN (l:LA):=xoZ (List.take (xnP l) (List.drop 0 (xnO l)))
def xkX {T:Type} (l:LA) (δ:T) (κ:LA→T):T:=br ((Iter (xby l (↑l.length:Int)) (0,0,[])).isSome) (br (decide (0+xnP l≤(xnO l).length)&&true) (br ((xnN l).isSome) (κ ((xnN l).getD [])) δ) δ) δ
def xdj (l:LA):Option (LA):=xkX l none some
theorem xCQ (l:LA):Enc (fun (p:LA)=>((AV.list 2 p):AV)) (xdj l) (XF Tryz.prog xhN Tryz.f45 (Tryz.f45.body.getD .skip) [AV.list 2 l]):=by
 refine eV (xkX l none (fun (p:LA)=>some ((AV.list 2 p):AV))) (by kernel_rfl) ?_;unfold xdj xkX;repeat' first|exact eN|exact eS rfl|apply eB
def xtS:LA→Option (Bool×AV):=ocOf (sCons (sList 2 pAny) sNil) fun (l,_)=>((xdj l).isSome,(AV.list 2 ((xdj l).getD [])))
theorem xCP:OcOk Tryz.prog ITryz 45 (xtS):=xaL fun c f e=>by
 obtain ⟨l,_⟩:=c
 obtain ⟨a,b⟩:=Prod.mk.inj e
 refine xaI (p:=xhN.pin) (xaK mxTryz (inv0Ok Tryz.prog _) rfl xyl Tryz.func45 rfl (by kernel_rfl) xvv ((xCQ _ _ (xab (d:=[]) a)).trans ?_))
 exact congrArg some b
def xQo:Env:=xG0.with 45 xtS
theorem xQp:OrcOk Tryz.prog ITryz xQo:=xCl.with xCP
abbrev EKP1:Env:=xQo
theorem xEe:OrcOk Tryz.prog ITryz EKP1:=xQp
end Go.Sim.M
end
noncomputable section
set_option maxRecDepth 100000
namespace Go.Sim.M
open Go.IntKind (i64 u64 u8)
open Go.RowKit Go.Proofs
def xkw:Env:=EKP1.fn 71 5 (lsOf []) (lpsOf [])
theorem xGl:OrcOk Tryz.prog (ITryz.at 5) xkw:=xEe.fn
theorem xAF:LoOk Tryz.prog (ITryz.at xkw.pin) xkw (loopAt Tryz.f68 1):=xaq (by kernel_rfl)
def xk0 {T:Type} (o n:Int) (f g:Nat) (k p m j:Int) (i l d h a:Nat) (b:LA) (e:Nat) (c:LA) (δ:T) (κl:(Int×Int×Nat×Nat×Nat×Nat×Nat×LA×Nat×LA)→T) (κr:(Int×Nat×Nat×Nat×Nat×LA×Nat×LA×Nat)→T):T:=br (decide (m<p)) (br (a==f) (br (a==f) (br (a==f&&(decide (g<b.length)&&hasSh1 (Sh.int .i64) ((b.getD g .top).cells.getD 0 .top))) (br (e==h&&(d==c.length&&(decide ((d+1)*16≤140737488355328)&&decide (d+1≤4611686018427387904)))) (κl (i64.wrap (m+1),j,i,l,d+1,h+1,a,List.take i b,h+1,c++[AV.agg [AV.int .i64 ((b.getD g .top).cells.getD 0 .top).toInt,AV.int .i64 o]])) δ) δ) δ) δ) (κr (j,l,i,h,d,b,a,c,e))
def xcK (m n:Int) (e f:Nat) (k o:Int):(Int×Int×Nat×Nat×Nat×Nat×Nat×LA×Nat×LA)→Option ((Int×Int×Nat×Nat×Nat×Nat×Nat×LA×Nat×LA)⊕(Int×Nat×Nat×Nat×Nat×LA×Nat×LA×Nat)):=fun (q,g,h,i,j,l,a,b,c,d)=>xk0 m n e f k o q g h i j l a b c d none (fun s=>some (.inl s)) (fun p=>some (.inr p))
def xiE (m n:Int) (e f:Nat) (k o:Int):(Int×Int×Nat×Nat×Nat×Nat×Nat×LA×Nat×LA)→LA×List Box:=fun (p,g,h,i,j,l,a,b,c,d)=>([AV.int .i64 m,AV.int .i64 n,AV.own 0 0 0 0,AV.own 1 0 0 0,AV.own 2 0 0 0,AV.own 3 e f 0,AV.int .i64 k,AV.int .i64 o,AV.int .i64 p],[⟨0,1,3,[AV.int .i64 g],false,true⟩,⟨0,1,84,[AV.osl 3 i 0 h],false,false⟩,⟨0,1,53,[AV.osl 4 l 0 j],false,false⟩,⟨a,2,86,b,false,true⟩,⟨c,2,31,d,false,true⟩])
def xg6 (c n:Int) (a b:Nat) (k d:Int):(Int×Nat×Nat×Nat×Nat×LA×Nat×LA×Nat)→LR:=fun p=>(.leaf (.exit 2) [AV.int .i64 c,AV.int .i64 n,AV.own 0 0 0 0,AV.own 1 0 0 0,AV.own 2 0 0 0,AV.own 3 a b 0,AV.int .i64 k] [⟨0,1,3,[AV.int .i64 p.1],false,true⟩,⟨0,1,84,[AV.osl 3 p.2.1 0 p.2.2.1],false,false⟩,⟨0,1,53,[AV.osl 4 p.2.2.2.1 0 p.2.2.2.2.1],false,false⟩,⟨p.2.2.2.2.2.2.1,2,86,p.2.2.2.2.2.1,false,true⟩,⟨p.2.2.2.2.2.2.2.2,2,31,p.2.2.2.2.2.2.2.1,false,true⟩])
abbrev xHG (a:LA) (H:List Box):=XR Tryz.prog xkw [0,1,2,3,4,7,8,37,38] [0,1,2,3,4,7,8] [(3,0,0)] (loopAt Tryz.f68 1) a H
theorem xHH (c n:Int) (a b:Nat) (k d:Int) (s:Int×Int×Nat×Nat×Nat×Nat×Nat×LA×Nat×LA):Enc (encR (xiE c n a b k d) (xg6 c n a b k d)) (xcK c n a b k d s) (xHG (xiE c n a b k d s).1 (xiE c n a b k d s).2):=by
 obtain ⟨q,i,j,l,m,o,e,f,g,h⟩:=s
 refine eV (xk0 c n a b k d q i j l m o e f g h none (fun s=>some (encR (xiE c n a b k d) (xg6 c n a b k d) (.inl s))) (fun p=>some (encR (xiE c n a b k d) (xg6 c n a b k d) (.inr p)))) (by kernel_rfl) ?_;unfold xcK xk0;repeat' first|exact eN|exact eS rfl|apply eB
def xqQ:Lp:=lpOf [0,1,2,3,4,7,8,37,38] [0,1,2,3,4,7,8] [(3,0,0)] (pCons (pInt .i64) (pCons (pInt .i64) (pCons (pOwn 0 0 0 0) (pCons (pOwn 1 0 0 0) (pCons (pOwn 2 0 0 0) (pCons (pOwnV 3 0) (pCons (pInt .i64) (pCons (pInt .i64) (pCons (pInt .i64) pNil))))))))) (pCons (pBox 0 1 3 false true (pCons (pInt .i64) pNil)) (pCons (pBox 0 1 84 false false (pCons (pOslV 3 0) pNil)) (pCons (pBox 0 1 53 false false (pCons (pOslV 4 0) pNil)) (pCons (pBoxV 2 86 false true pAny) (pCons (pBoxV 2 31 false true pAny) pNil))))) fun (g,(n,(_,(_,(_,((e,f),(k,(h,(p,_))))))))) ((i,_),(((j,l),_),(((m,o),_),((a,b),((c,d),_)))))=>((Iter (xcK g n e f k h) (p,i,l,j,o,m,a,b,c,d)).isSome,xg6 g n e f k h ((Iter (xcK g n e f k h) (p,i,l,j,o,m,a,b,c,d)).getD (0,0,0,0,0,[],0,[],0)))
theorem xuV:LoopOk Tryz.prog (ITryz.at xkw.pin) xkw.nt (loopAt Tryz.f68 1) xqQ:=xaP fun t u w v=>by
 obtain ⟨g,⟨n,⟨_,⟨_,⟨_,⟨⟨a,b⟩,⟨k,⟨h,⟨q,_⟩⟩⟩⟩⟩⟩⟩⟩⟩:=t
 obtain ⟨⟨i,_⟩,⟨⟨⟨j,l⟩,_⟩,⟨⟨⟨m,o⟩,_⟩,⟨⟨c,d⟩,⟨⟨e,f⟩,_⟩⟩⟩⟩⟩:=u
 obtain ⟨r,rfl⟩:=Prod.mk.inj v
 exact xar mxTryz (inv0Ok Tryz.prog _) rfl xGl xAF (xiE g n a b k h) (xg6 g n a b k h) (fun p=>by simp only [xg6,LR.eval];first|(simp;done)|(repeat' split<;>simp)) (xHH g n a b k h) (s:=(q,i,l,j,o,m,c,d,e,f)) (xab r)
def xky:Env:=EKP1.fn 71 5 (lsOf []) (lpsOf [(7,xqQ)])
theorem xGm:OrcOk Tryz.prog (ITryz.at 5) xky:=xEe.fn
theorem xAG:LoOk Tryz.prog (ITryz.at xky.pin) xky (loopAt Tryz.f68 0):=xaM (ls:=[loopAt Tryz.f68 1]) (by kernel_rfl) (lkC xuV lkN)
def xbC (a:Nat):Nat:=0+(i64.wrap ((↑a:Int) - 1)).toNat
def xfi (n b:Int) (c d:Nat) (a:LA):Int:=if i64.wrap (b - n)<((a.getD (xbC c) .top).cells.getD 1 .top).toInt then i64.wrap (b - n) else ((a.getD (xbC c) .top).cells.getD 1 .top).toInt
def xl7 (j n d:Int) (c g h i a:Nat) (b:LA) (e:Nat) (f:LA):=Iter (xcK j n g (xbC c) (xfi n d c a b) (xfi n d c a b)) (0,d,c,g,h,i,a,List.take c b,e,f)
def xjj (j n e:Int) (f g h i a:Nat) (b:LA) (c:Nat) (d:LA):=(xl7 j n e f g h i a b c d).getD (0,0,0,0,0,[],0,[],0)
def xl6 (j n e:Int) (f g h i a:Nat) (b:LA) (c:Nat) (d:LA):=(xjj j n e f g h i a b c d).snd
def xhY (j n e:Int) (f g h i a:Nat) (b:LA) (c:Nat) (d:LA):=(xl6 j n e f g h i a b c d).fst
def xl5 (j n e:Int) (f g h i a:Nat) (b:LA) (c:Nat) (d:LA):=(xl6 j n e f g h i a b c d).snd
def xhX (j n e:Int) (f g h i a:Nat) (b:LA) (c:Nat) (d:LA):=(xl5 j n e f g h i a b c d).fst
def xji (j n e:Int) (f g h i a:Nat) (b:LA) (c:Nat) (d:LA):=(xl5 j n e f g h i a b c d).snd
def xhW (j n e:Int) (f g h i a:Nat) (b:LA) (c:Nat) (d:LA):=i64.wrap ((↑(xhX j n e f g h i a b c d):Int) - 1)
def xjh (j n e:Int) (f g h i a:Nat) (b:LA) (c:Nat) (d:LA):=(xji j n e f g h i a b c d).snd
def xl4 (j n e:Int) (f g h i a:Nat) (b:LA) (c:Nat) (d:LA):=(xjh j n e f g h i a b c d).snd
def xj6 (j n e:Int) (f g h i a:Nat) (b:LA) (c:Nat) (d:LA):=(xl4 j n e f g h i a b c d).fst
def xm3 (j n e:Int) (f g h i a:Nat) (b:LA) (c:Nat) (d:LA):=(xl4 j n e f g h i a b c d).snd
def xeN (j n f:Int) (g e h i a:Nat) (b:LA) (c:Nat) (d:LA):=(xm3 j n f g e h i a b c d).fst==e
def xm2 (j n f:Int) (e g h i a:Nat) (b:LA) (c:Nat) (d:LA):=decide (xbC e<(xj6 j n f e g h i a b c d).length)
def xhV (j n f:Int) (e g h i a:Nat) (b:LA) (c:Nat) (d:LA):=((xj6 j n f e g h i a b c d).getD (xbC e) .top).cells
def xhZ (j n e:Int) (f g h i a:Nat) (b:LA) (c:Nat) (d:LA):=(xm3 j n e f g h i a b c d).snd
def xgk (j n f:Int) (e g h i a:Nat) (b:LA) (c:Nat) (d:LA):=(xj6 j n f e g h i a b c d).set (xbC e) (AV.agg (List.take 1 (xhV j n f e g h i a b c d)++[AV.int .i64 (i64.wrap (((xhV j n f e g h i a b c d).getD 1 .top).toInt - xfi n f e a b))]++List.drop 2 (xhV j n f e g h i a b c d)))
def xgP {T:Type} (j n g:Int) (f e h i a:Nat) (b:LA) (c:Nat) (d:LA) (δ:T) (κl:(Int×Nat×Nat×Nat×Nat×Nat×LA×Nat×LA)→T) (κr:(Int×Nat×Nat×Nat×Nat×LA×Nat×LA×Nat)→T):T:=br (decide (g>n)) (br (a==e) (br (a==e&&(decide (0≤i64.wrap ((↑f:Int) - 1))&&decide (i64.wrap ((↑f:Int) - 1)<(↑f:Int)))) (br (a==e) (br (a==e) (br (a==e&&(decide (xbC f<b.length)&&hasSh1 (Sh.int .i64) ((b.getD (xbC f) .top).cells.getD 1 .top))) (br ((xl7 j n g f e h i a b c d).isSome) (br (xeN j n g f e h i a b c d) (br (xeN j n g f e h i a b c d) (br (xeN j n g f e h i a b c d&&(xm2 j n g f e h i a b c d&&hasSh1 (Sh.int .i64) ((xhV j n g f e h i a b c d).getD 1 .top))) (br (xeN j n g f e h i a b c d) (br (xeN j n g f e h i a b c d) (br (xeN j n g f e h i a b c d&&xm2 j n g f e h i a b c d) (br (e==e) (br (e==e) (br (e==e&&(decide (xbC f<(xgk j n g f e h i a b c d).length)&&hasSh1 (Sh.int .i64) (((xgk j n g f e h i a b c d).getD (xbC f) .top).cells.getD 1 .top))) (br ((((xgk j n g f e h i a b c d).getD (xbC f) .top).cells.getD 1 .top).toInt==0) (br (e==xhY j n g f e h i a b c d) (br (e==xhY j n g f e h i a b c d&&(decide (0≤xhW j n g f e h i a b c d)&&decide (xhW j n g f e h i a b c d≤(↑(xhX j n g f e h i a b c d):Int))&&true)) (κl (i64.wrap ((xjj j n g f e h i a b c d).fst - xfi n g f a b),(xhW j n g f e h i a b c d).toNat - 0,xhY j n g f e h i a b c d,(xjh j n g f e h i a b c d).fst,(xji j n g f e h i a b c d).fst,e,List.take ((xhW j n g f e h i a b c d).toNat - 0) (xgk j n g f e h i a b c d),(xhZ j n g f e h i a b c d).snd,(xhZ j n g f e h i a b c d).fst)) δ) δ) (κl (i64.wrap ((xjj j n g f e h i a b c d).fst - xfi n g f a b),xhX j n g f e h i a b c d,xhY j n g f e h i a b c d,(xjh j n g f e h i a b c d).fst,(xji j n g f e h i a b c d).fst,e,List.take (xhX j n g f e h i a b c d) (xgk j n g f e h i a b c d),(xhZ j n g f e h i a b c d).snd,(xhZ j n g f e h i a b c d).fst))) δ) δ) δ) δ) δ) δ) δ) δ) δ) δ) δ) δ) δ) δ) δ) (κr (g,e,f,i,h,b,a,d,c))
def xb5 (j n:Int):(Int×Nat×Nat×Nat×Nat×Nat×LA×Nat×LA)→Option ((Int×Nat×Nat×Nat×Nat×Nat×LA×Nat×LA)⊕(Int×Nat×Nat×Nat×Nat×LA×Nat×LA×Nat)):=fun (e,f,g,h,i,a,b,c,d)=>xgP j n e f g h i a b c d none (fun s=>some (.inl s)) (fun p=>some (.inr p))
def xiD (j n:Int):(Int×Nat×Nat×Nat×Nat×Nat×LA×Nat×LA)→LA×List Box:=fun (e,f,g,h,i,a,b,c,d)=>([AV.int .i64 j,AV.int .i64 n,AV.own 0 0 0 0,AV.own 1 0 0 0,AV.own 2 0 0 0],[⟨0,1,3,[AV.int .i64 e],false,true⟩,⟨0,1,84,[AV.osl 3 g 0 f],false,false⟩,⟨0,1,53,[AV.osl 4 i 0 h],false,false⟩,⟨a,2,86,b,false,true⟩,⟨c,2,31,d,false,true⟩])
def xg5 (a n:Int):(Int×Nat×Nat×Nat×Nat×LA×Nat×LA×Nat)→LR:=fun p=>(.leaf (.exit 0) [] [⟨0,1,3,[AV.int .i64 p.1],false,true⟩,⟨0,1,84,[AV.osl 3 p.2.1 0 p.2.2.1],false,false⟩,⟨0,1,53,[AV.osl 4 p.2.2.2.1 0 p.2.2.2.2.1],false,false⟩,⟨p.2.2.2.2.2.2.1,2,86,p.2.2.2.2.2.1,false,true⟩,⟨p.2.2.2.2.2.2.2.2,2,31,p.2.2.2.2.2.2.2.1,false,true⟩])
abbrev xHE (a:LA) (H:List Box):=XR Tryz.prog xky [0,1,2,3,4] [] [(3,0,0)] (loopAt Tryz.f68 0) a H
theorem xHF (a n:Int) (s:Int×Nat×Nat×Nat×Nat×Nat×LA×Nat×LA):Enc (encR (xiD a n) (xg5 a n)) (xb5 a n s) (xHE (xiD a n s).1 (xiD a n s).2):=by
 obtain ⟨f,g,h,i,j,b,c,d,e⟩:=s
 refine eV (xgP a n f g h i j b c d e none (fun s=>some (encR (xiD a n) (xg5 a n) (.inl s))) (fun p=>some (encR (xiD a n) (xg5 a n) (.inr p)))) (by kernel_rfl) ?_;unfold xb5 xgP;repeat' first|exact eN|exact eS rfl|apply eB
def xvD:Lp:=lpOf [0,1,2,3,4] [] [(3,0,0)] (pCons (pInt .i64) (pCons (pInt .i64) (pCons (pOwn 0 0 0 0) (pCons (pOwn 1 0 0 0) (pCons (pOwn 2 0 0 0) pNil))))) (pCons (pBox 0 1 3 false true (pCons (pInt .i64) pNil)) (pCons (pBox 0 1 84 false false (pCons (pOslV 3 0) pNil)) (pCons (pBox 0 1 53 false false (pCons (pOslV 4 0) pNil)) (pCons (pBoxV 2 86 false true pAny) (pCons (pBoxV 2 31 false true pAny) pNil))))) fun (e,(n,(_,(_,(_,_))))) ((f,_),(((g,h),_),(((i,j),_),((a,b),((c,d),_)))))=>((Iter (xb5 e n) (f,h,g,j,i,a,b,c,d)).isSome,xg5 e n ((Iter (xb5 e n) (f,h,g,j,i,a,b,c,d)).getD (0,0,0,0,0,[],0,[],0)))
theorem xEC:LoopOk Tryz.prog (ITryz.at xky.pin) xky.nt (loopAt Tryz.f68 0) xvD:=xaP fun l m q o=>by
 obtain ⟨e,⟨n,⟨_,⟨_,⟨_,_⟩⟩⟩⟩⟩:=l
 obtain ⟨⟨f,_⟩,⟨⟨⟨g,h⟩,_⟩,⟨⟨⟨i,j⟩,_⟩,⟨⟨a,b⟩,⟨⟨c,d⟩,_⟩⟩⟩⟩⟩:=m
 obtain ⟨k,rfl⟩:=Prod.mk.inj o
 exact xar mxTryz (inv0Ok Tryz.prog _) rfl xGm xAG (xiD e n) (xg5 e n) (fun p=>by simp only [xg5,LR.eval];first|(simp;done)|(repeat' split<;>simp)) (xHF e n) (s:=(f,h,g,j,i,a,b,c,d)) (xab k)
def xng:Env:=EKP1.fn 71 5 (lsOf []) (lpsOf [(7,xqQ),(3,xvD)])
theorem xGn:OrcOk Tryz.prog (ITryz.at 5) xng:=xEe.fn
theorem xC0:LoOk Tryz.prog (ITryz.at xng.pin) xng (Tryz.f68.body.getD .skip):=xaM (ls:=[loopAt Tryz.f68 0,loopAt Tryz.f68 1]) (by kernel_rfl) (lkC xEC (lkC xuV lkN))
def xph (a n h:Int) (b c:Nat) (d e:LA):=Iter (xb5 a n) (n,b+1,1,c,0,1,List.take (b+1) (d++[AV.agg [AV.int .i64 a,AV.int .i64 (i64.wrap (n - h))]]),0,e)
def xpi (a n h:Int) (b c:Nat) (d e:LA):=Iter (xb5 a n) (h,b,0,c,0,0,List.take b d,0,e)
def xpc (a n h:Int) (b c:Nat) (d e:LA):=(xph a n h b c d e).getD (0,0,0,0,0,[],0,[],0)
def xpg (a n h:Int) (b c:Nat) (d e:LA):=(xpi a n h b c d e).getD (0,0,0,0,0,[],0,[],0)
def xqy (a n h:Int) (b c:Nat) (d e:LA):=(xpc a n h b c d e).snd
def xpf (a n h:Int) (b c:Nat) (d e:LA):=(xpg a n h b c d e).snd
def xqu (a n h:Int) (b c:Nat) (d e:LA):=(xqy a n h b c d e).snd
def xpe (a n h:Int) (b c:Nat) (d e:LA):=(xpf a n h b c d e).snd
def xqt (a n h:Int) (b c:Nat) (d e:LA):=(xqu a n h b c d e).snd
def xpd (a n h:Int) (b c:Nat) (d e:LA):=(xpe a n h b c d e).snd
def xqs (a n h:Int) (b c:Nat) (d e:LA):=(xqt a n h b c d e).snd
def xpb (a n h:Int) (b c:Nat) (d e:LA):=(xpd a n h b c d e).snd
def xqr (a n h:Int) (b c:Nat) (d e:LA):=(xqs a n h b c d e).snd
def xqz (a n h:Int) (b c:Nat) (d e:LA):=(xpb a n h b c d e).snd
def xqq (a n h:Int) (b c:Nat) (d e:LA):=(xqr a n h b c d e).snd
def xqw (a n h:Int) (b c:Nat) (d e:LA):=(xqz a n h b c d e).snd
def xqp (a n h:Int) (b c:Nat) (d e:LA):=(xqq a n h b c d e).snd
def xqv (a n h:Int) (b c:Nat) (d e:LA):=(xqw a n h b c d e).snd
def xos {T:Type} (a n h:Int) (b d:Nat) (c e:LA) (δ:T) (κ:Int×Nat×Nat×Nat×Nat×LA×Nat×LA×Nat→T):T:=br (decide (n>h)) (br (b==c.length&&(decide ((b+1)*16≤140737488355328)&&decide (b+1≤4611686018427387904))) (br ((xph a n h b d c e).isSome) (κ ((xpc a n h b d c e).fst,(xqy a n h b d c e).fst,(xqu a n h b d c e).fst,(xqt a n h b d c e).fst,(xqs a n h b d c e).fst,(xqr a n h b d c e).fst,(xqq a n h b d c e).fst,(xqp a n h b d c e).fst,(xqp a n h b d c e).snd)) δ) δ) (br ((xpi a n h b d c e).isSome) (κ ((xpg a n h b d c e).fst,(xpf a n h b d c e).fst,(xpe a n h b d c e).fst,(xpd a n h b d c e).fst,(xpb a n h b d c e).fst,(xqz a n h b d c e).fst,(xqw a n h b d c e).fst,(xqv a n h b d c e).fst,(xqv a n h b d c e).snd)) δ)
def xpa (a n h:Int) (b c:Nat) (d e:LA):Option (Int×Nat×Nat×Nat×Nat×LA×Nat×LA×Nat):=xos a n h b c d e none some
theorem xMR (a n h:Int) (b c:Nat) (d e:LA):Enc (fun (p:Int×Nat×Nat×Nat×Nat×LA×Nat×LA×Nat)=>(((AV.tuple [],([⟨0,1,3,[AV.int .i64 p.1],false,true⟩,⟨0,1,84,[AV.osl 3 p.2.1 0 p.2.2.1],false,false⟩,⟨0,1,53,[AV.osl 4 p.2.2.2.1 0 p.2.2.2.2.1],false,false⟩,⟨p.2.2.2.2.2.2.1,2,86,p.2.2.2.2.2.1,false,true⟩,⟨p.2.2.2.2.2.2.2.2,2,31,p.2.2.2.2.2.2.2.1,false,true⟩]:List Box))):(AV×List Box))) (xpa a n h b c d e) (XFM Tryz.prog xng Tryz.f68 (Tryz.f68.body.getD .skip) [AV.int .i64 a,AV.int .i64 n,AV.own (0:Id) 0 0 0,AV.own (1:Id) 0 0 0,AV.own (2:Id) 0 0 0] [{ ver:=0,sz:=1,ty:=(3:TypeId),xs:=[AV.int .i64 h],frz:=false,pm:=true },{ ver:=0,sz:=1,ty:=(84:TypeId),xs:=[AV.osl (3:Id) 0 0 b],frz:=false,pm:=false },{ ver:=0,sz:=1,ty:=(53:TypeId),xs:=[AV.osl (4:Id) 0 0 c],frz:=false,pm:=false },{ ver:=0,sz:=2,ty:=(86:TypeId),xs:=d,frz:=false,pm:=true },{ ver:=0,sz:=2,ty:=(31:TypeId),xs:=e,frz:=false,pm:=true }]):=by
 refine eV (xos a n h b c d e none (fun (p:Int×Nat×Nat×Nat×Nat×LA×Nat×LA×Nat)=>some (((AV.tuple [],([⟨0,1,3,[AV.int .i64 p.1],false,true⟩,⟨0,1,84,[AV.osl 3 p.2.1 0 p.2.2.1],false,false⟩,⟨0,1,53,[AV.osl 4 p.2.2.2.1 0 p.2.2.2.2.1],false,false⟩,⟨p.2.2.2.2.2.2.1,2,86,p.2.2.2.2.2.1,false,true⟩,⟨p.2.2.2.2.2.2.2.2,2,31,p.2.2.2.2.2.2.2.1,false,true⟩]:List Box))):(AV×List Box)))) (by kernel_rfl) ?_;unfold xpa xos;repeat' first|exact eN|exact eS rfl|apply eB
end Go.Sim.M
end
noncomputable section
set_option maxRecDepth 100000
namespace Go.Sim
open Go.RowKit
theorem GoodM.aged {P:Program} {Inv:IV} {f:FuncId} {args:List AV} {H:List Box} {x0:AV} {v3 v4 k3 k4 t0 t1 t2 t3 t4 s3 s4:Nat} {xs3 xs4:List AV} (hlen:H.length=5) (hz3:∀ bx,H[3]?=some bx→bx.ver=0) (hz4:∀ bx,H[4]?=some bx→bx.ver=0)
  (p0:isC t0=false) (p1:isC t1=false) (p2:isC t2=false) (p3:isC t3=false) (p4:isC t4=false)
  (h:GoodM P Inv f args H (.tuple []) [⟨0,1,t0,[x0],false,true⟩,⟨0,1,t1,[.osl (.b 3) v3 0 k3],false,false⟩,⟨0,1,t2,[.osl (.b 4) v4 0 k4],false,false⟩,⟨v3,s3,t3,xs3,false,true⟩,⟨v4,s4,t4,xs4,false,true⟩]) :
  GoodM P Inv f args H (.tuple []) [⟨0,1,t0,[x0],false,true⟩,⟨0,1,t1,[.osl (.b 3) 1 0 k3],false,false⟩,⟨0,1,t2,[.osl (.b 4) 1 0 k4],false,false⟩,⟨1,s3,t3,xs3,false,true⟩,⟨1,s4,t4,xs4,false,true⟩]:=by
 refine ⟨h.1,fun w0 w A M vs hI hB hR hrc=>(h.2 w0 w A M vs hI hB hR hrc).mono ?_⟩
 rintro e w' ⟨u,A',M',rfl,h1,h2,h3,h4,h5⟩
 let M'':Id→Option MB:=fun id=>if id=.b 3∨id=.b 4 then (M' id).map fun m=>⟨m.b,1,m.sz,m.cap,m.ty⟩ else M' id
 have e3:∀ m,M' (.b 3)=some m→M'' (.b 3)=some ⟨m.b,1,m.sz,m.cap,m.ty⟩:=fun m hm=>by simp [M'',hm]
 have e4:∀ m,M' (.b 4)=some m→M'' (.b 4)=some ⟨m.b,1,m.sz,m.cap,m.ty⟩:=fun m hm=>by
  show (if (Id.b 4=.b 3∨Id.b 4=.b 4) then _ else _)=_
  rw [if_pos (.inr rfl),hm];rfl
 have eo:∀ id,id≠.b 3→id≠.b 4→M'' id=M' id:=fun id g1 g2=>by
  show (if _ then _ else _)=_
  rw [if_neg (fun e=>e.elim g1 g2)]
 have hsrc:∀ id m1,M'' id=some m1→∃ m0,M' id=some m0∧m1.b=m0.b∧m1.cap=m0.cap∧m1.sz=m0.sz∧m1.ty=m0.ty:=fun id m1 hm1=>by
  by_cases g3:id=.b 3
  · subst g3
    cases hm:M' (.b 3) with
    | none=>simp [M'',hm] at hm1
    | some m=>rw [e3 m hm] at hm1;simp only [Option.some.injEq] at hm1;subst hm1;exact ⟨m,rfl,rfl,rfl,rfl,rfl⟩
  · by_cases g4:id=.b 4
    · subst g4
      cases hm:M' (.b 4) with
      | none =>
       have:M'' (.b 4)=none:=by
        show (if (Id.b 4=.b 3∨Id.b 4=.b 4) then _ else _)=_
        rw [if_pos (.inr rfl),hm];rfl
       rw [this] at hm1;cases hm1
      | some m=>rw [e4 m hm] at hm1;simp only [Option.some.injEq] at hm1;subst hm1;exact ⟨m,rfl,rfl,rfl,rfl,rfl⟩
    · rw [eo id g3 g4] at hm1
      exact ⟨m1,hm1,rfl,rfl,rfl,rfl⟩
 have hosl:∀ (n v k:Nat) (c:Value) (m:MB),M' (.b n)=some m→M'' (.b n)=some ⟨m.b,1,m.sz,m.cap,m.ty⟩→v=m.ver→Rel w' A' M' c (.osl (.b n) v 0 k)→Rel w' A' M'' c (.osl (.b n) 1 0 k):=fun n v k c m hm hm'' hv hr=>by
  obtain ⟨m0,g1,g2,g3,g4⟩:=Rel.osl_inv hr
  rw [hm] at g1
  simp only [Option.some.injEq] at g1
  subst g1
  exact .osl c (.b n) 1 0 k _ hm'' (Nat.le_refl _) g3 fun _=>g4 hv
 have hbox:∀ (n:Nat) (bx:Box) (m:MB),[⟨0,1,t0,[x0],false,true⟩,⟨0,1,t1,[.osl (.b 3) v3 0 k3],false,false⟩,⟨0,1,t2,[.osl (.b 4) v4 0 k4],false,false⟩,⟨v3,s3,t3,xs3,false,true⟩,⟨v4,s4,t4,xs4,false,true⟩][n]?=some bx→M' (.b n)=some m→BoxAt w' A' M' w0.heap.size (.b n) m bx:=fun n bx m hn hm=>by
  obtain ⟨bx',g1,g2⟩:=h4.box _ m hm
  rw [xdx,hn] at g1
  simp only [Option.some.injEq] at g1
  subst g1
  exact g2
 have hpure:∀ (id:Id) (bx:Box) (m:MB) (v:Nat),isC bx.ty=false→bx.pm=true→BoxAt w' A' M' w0.heap.size id m bx→BoxAt w' A' M'' w0.heap.size id ⟨m.b,v,m.sz,m.cap,m.ty⟩ ⟨v,bx.sz,bx.ty,bx.xs,bx.frz,bx.pm⟩:=fun id bx m v hpl hp g=>by
  have hnm:isMapT m.ty=false:=g.nomap (xco hpl)
  refine ⟨rfl,g.sz,g.ty,g.capm,g.fits,g.ok,g.low,g.lt,fun h0=>?_,g.guard⟩
  obtain ⟨c,c1,c2,c3⟩:=g.cells h0
  refine ⟨c,.of hnm (c1.plain hnm),c2,fun i j hi hj=>?_⟩
  have:=c3 i j hi hj
  rw [xa1 hpl,xcq hpl,hp] at this
  rw [xa1 hpl,xcq (bx:=⟨v,bx.sz,bx.ty,bx.xs,bx.frz,bx.pm⟩) hpl]
  show Rel w' A' (MP M'' bx.pm) _ _
  rw [hp]
  exact this
 have hvar:∀ (n n2 v k t:Nat) (m m2:MB),isC t=false→n≠3→n≠4→BoxAt w' A' M' w0.heap.size (.b n) m ⟨0,1,t,[.osl (.b n2) v 0 k],false,false⟩→M' (.b n2)=some m2→M'' (.b n2)=some ⟨m2.b,1,m2.sz,m2.cap,m2.ty⟩→v=m2.ver →
   BoxAt w' A' M'' w0.heap.size (.b n) m ⟨0,1,t,[.osl (.b n2) 1 0 k],false,false⟩:=fun n n2 v k t m m2 hpl _ _ g hm2 hm2'' hv=>by
  have hnm:isMapT m.ty=false:=g.nomap (xco hpl)
  have hsz:m.sz=1:=g.sz.symm
  refine ⟨g.ver,g.sz,g.ty,g.capm,g.fits,fun y hy=>?_,g.low,g.lt,fun h0=>?_,g.guard⟩
  · simp only [List.mem_singleton] at hy
    subst hy
    rw [hsz];rfl
  · obtain ⟨c,c1,c2,c3⟩:=g.cells h0
    refine ⟨c,.of hnm (c1.plain hnm),c2,fun i j hi hj=>?_⟩
    have hi0:i=0:=by simpa using hi
    have hj0:j=0:=by omega
    subst hi0 hj0
    have:=c3 0 0 (by simp) hj
    rw [xa1 hpl,xcq hpl] at this
    rw [xa1 hpl,xcq (bx:=⟨0,1,t,[.osl (.b n2) 1 0 k],false,false⟩) hpl]
    exact hosl n2 v k _ m2 hm2 hm2'' hv this
 have hm3:∀ m,M (.b 3)=some m→m.ver=0:=fun m hm=>by
  obtain ⟨bx,g1,g2⟩:=hR.box _ m hm
  rw [←g2.ver]
  exact hz3 bx g1
 have hm4:∀ m,M (.b 4)=some m→m.ver=0:=fun m hm=>by
  obtain ⟨bx,g1,g2⟩:=hR.box _ m hm
  rw [←g2.ver]
  exact hz4 bx g1
 have hver3:∀ m,M' (.b 3)=some m→v3=m.ver:=fun m hm=>(hbox 3 _ m rfl hm).ver
 have hver4:∀ m,M' (.b 4)=some m→v4=m.ver:=fun m hm=>(hbox 4 _ m rfl hm).ver
 have hrow:∀ n i j m,M' (.r n i j)=some m→BoxAt w' A' M' w0.heap.size (.r n i j) m tombB∧n<5:=fun n i j m hm=>by
  obtain ⟨bx,g1,g2⟩:=h4.box _ m hm
  obtain ⟨b0,q1,_⟩:=xrQ g1
  have hn:n<5:=by
   have:=xgb q1
   simpa using this
  have hp:isC b0.ty=false:=by
   match n,hn with
   | 0,_=>simp only [List.getElem?_cons_zero,Option.some.injEq] at q1;subst q1;exact p0
   | 1,_=>simp only [List.getElem?_cons_zero,List.getElem?_cons_succ,Option.some.injEq] at q1;subst q1;exact p1
   | 2,_=>simp only [List.getElem?_cons_zero,List.getElem?_cons_succ,Option.some.injEq] at q1;subst q1;exact p2
   | 3,_=>simp only [List.getElem?_cons_zero,List.getElem?_cons_succ,Option.some.injEq] at q1;subst q1;exact p3
   | 4,_=>simp only [List.getElem?_cons_zero,List.getElem?_cons_succ,Option.some.injEq] at q1;subst q1;exact p4
  rw [xeK q1 hp] at g1
  simp only [Option.some.injEq] at g1
  subst g1
  exact ⟨g2,hn⟩
 have hR':HR w' A' M'' w0.heap.size [⟨0,1,t0,[x0],false,true⟩,⟨0,1,t1,[.osl (.b 3) 1 0 k3],false,false⟩,⟨0,1,t2,[.osl (.b 4) 1 0 k4],false,false⟩,⟨1,s3,t3,xs3,false,true⟩,⟨1,s4,t4,xs4,false,true⟩]:=by
  refine ⟨fun id m1 hm1=>?_,fun id id' m1 m2 k1 k2 c1 c2 he=>?_,h4.lt⟩
  · obtain ⟨m0,g1,g2,g3,g4,g5⟩:=hsrc id m1 hm1
    cases id with
    | r n i j =>
     rw [eo (.r n i j) (fun e=>by cases e) (fun e=>by cases e),g1] at hm1
     simp only [Option.some.injEq] at hm1
     subst hm1
     obtain ⟨q1,q2⟩:=hrow n i j _ g1
     refine ⟨tombB,?_,?_⟩
     · match n,q2 with
       | 0,_=>exact xeK rfl p0
       | 1,_=>exact xeK rfl p1
       | 2,_=>exact xeK rfl p2
       | 3,_=>exact xeK rfl p3
       | 4,_=>exact xeK rfl p4
     · have hv:tombB.ver=m0.ver:=q1.ver
       have:=hpure (.r n i j) tombB m0 m0.ver rfl rfl q1
       exact ⟨q1.ver,this.sz,this.ty,this.capm,this.fits,this.ok,this.low,this.lt,this.cells,this.guard⟩
    | b n =>
     have hn:n<5:=by
      obtain ⟨bx,q1,_⟩:=h4.box _ m0 g1
      have:=xgb q1
      simpa using this
     match n,hn with
     | 0,_ =>
      rw [eo (.b 0) (fun e=>by cases e) (fun e=>by cases e),g1] at hm1
      simp only [Option.some.injEq] at hm1
      subst hm1
      have q:=hbox 0 _ m0 rfl g1
      have:=hpure (.b 0) _ m0 m0.ver p0 rfl q
      exact ⟨⟨0,1,t0,[x0],false,true⟩,rfl,q.ver,this.sz,this.ty,this.capm,this.fits,this.ok,this.low,this.lt,this.cells,this.guard⟩
     | 1,_ =>
      rw [eo (.b 1) (fun e=>by cases e) (fun e=>by cases e),g1] at hm1
      simp only [Option.some.injEq] at hm1
      subst hm1
      have q:=hbox 1 _ m0 rfl g1
      have hc:0<m0.cap:=Nat.lt_of_lt_of_le Nat.zero_lt_one q.fits
      obtain ⟨c,c1,c2,c3⟩:=q.cells hc
      have hr:=c3 0 0 (by simp) (by rw [←q.sz];exact Nat.zero_lt_one)
      rw [xa1 p1,xcq (bx:=⟨0,1,t1,[.osl (.b 3) v3 0 k3],false,false⟩) p1] at hr
      have hr:Rel w' A' M' _ (.osl (.b 3) v3 0 k3):=hr
      obtain ⟨m3,a1,_⟩:=Rel.osl_inv hr
      exact ⟨_,rfl,hvar 1 3 v3 k3 t1 m0 m3 p1 (by decide) (by decide) q a1 (e3 m3 a1) (hver3 m3 a1)⟩
     | 2,_ =>
      rw [eo (.b 2) (fun e=>by cases e) (fun e=>by cases e),g1] at hm1
      simp only [Option.some.injEq] at hm1
      subst hm1
      have q:=hbox 2 _ m0 rfl g1
      have hc:0<m0.cap:=Nat.lt_of_lt_of_le Nat.zero_lt_one q.fits
      obtain ⟨c,c1,c2,c3⟩:=q.cells hc
      have hr:=c3 0 0 (by simp) (by rw [←q.sz];exact Nat.zero_lt_one)
      rw [xa1 p2,xcq (bx:=⟨0,1,t2,[.osl (.b 4) v4 0 k4],false,false⟩) p2] at hr
      have hr:Rel w' A' M' _ (.osl (.b 4) v4 0 k4):=hr
      obtain ⟨m4,a1,_⟩:=Rel.osl_inv hr
      exact ⟨_,rfl,hvar 2 4 v4 k4 t2 m0 m4 p2 (by decide) (by decide) q a1 (e4 m4 a1) (hver4 m4 a1)⟩
     | 3,_ =>
      rw [e3 m0 g1] at hm1
      simp only [Option.some.injEq] at hm1
      subst hm1
      exact ⟨_,rfl,hpure (.b 3) _ m0 1 p3 rfl (hbox 3 _ m0 rfl g1)⟩
     | 4,_ =>
      rw [e4 m0 g1] at hm1
      simp only [Option.some.injEq] at hm1
      subst hm1
      exact ⟨_,rfl,hpure (.b 4) _ m0 1 p4 rfl (hbox 4 _ m0 rfl g1)⟩
  · obtain ⟨n1,a1,a2,a3,_⟩:=hsrc id m1 k1
    obtain ⟨n2,b1,b2,b3,_⟩:=hsrc id' m2 k2
    exact h4.inj id id' n1 n2 a1 b1 (by omega) (by omega) (by rw [←a2,←b2,he])
 refine ⟨u,A',M'',rfl,h1,h2,⟨h3.size,h3.keep,h3.less,h3.more,fun id m hid hm=>?_,fun id m1 hm1 h0=>?_⟩,hR',?_⟩
 · obtain ⟨m',g1,g2⟩:=h3.ids id m hid hm
   by_cases q3:id=.b 3
   · subst q3
     exact ⟨_,e3 m' g1,.inr (by have:m.ver=0:=hm3 m hm;show m.ver<1;omega)⟩
   · by_cases q4:id=.b 4
     · subst q4
       exact ⟨_,e4 m' g1,.inr (by have:m.ver=0:=hm4 m hm;show m.ver<1;omega)⟩
     · exact ⟨m',by rw [eo id q3 q4];exact g1,g2⟩
 · obtain ⟨m0,g1,g2,g3,_⟩:=hsrc id m1 hm1
   rw [g2]
   exact h3.src id m0 g1 (by omega)
 · obtain ⟨vs',rfl,q1,_⟩:=h5.tuple_inv
   exact .tuple vs' [] q1 (by simp)
namespace M
open Go.Proofs
noncomputable def set2 (at0 n h:Int) (ns no:Nat) (sx ox:List AV):Option (Int×Nat×Nat×List AV×List AV):=(xpa at0 n h ns no sx ox).bind fun p =>
 br (Nat.beq p.2.1 p.2.2.2.2.2.2.1&&Nat.beq p.2.2.2.1 p.2.2.2.2.2.2.2.2) (some (p.1,p.2.2.1,p.2.2.2.2.1,p.2.2.2.2.2.1,p.2.2.2.2.2.2.2.1)) none
noncomputable def xRV:List AV→List Box→Option (Bool×AV×List Box):=omOf (sCons (sEq (pInt IntKind.i64)) (sCons (sEq (pInt IntKind.i64)) (sCons (sEq (pOwn 0 0 0 0)) (sCons (sEq (pOwn 1 0 0 0)) (sCons (sEq (pOwn 2 0 0 0)) sNil)))))
 (pCons (pBox 0 1 3 false true (pCons (pInt IntKind.i64) pNil)) (pCons (pBox 0 1 84 false false (pCons (pOsl 3 0 0) pNil)) (pCons (pBox 0 1 53 false false (pCons (pOsl 4 0 0) pNil)) (pCons (pBox 0 2 86 false true pAny) (pCons (pBox 0 2 31 false true pAny) pNil)))))
 fun (at0,(n,(_,(_,(_,_))))) ((h,_),((ns,_),((no,_),(sx,(ox,_)))))=>((set2 at0 n h ns no sx ox).isSome,(.tuple [],[⟨0,1,3,[.int .i64 ((set2 at0 n h ns no sx ox).getD (0,0,0,[],[])).1],false,true⟩,⟨0,1,84,[.osl (.b 3) 1 0 ((set2 at0 n h ns no sx ox).getD (0,0,0,[],[])).2.1],false,false⟩,⟨0,1,53,[.osl (.b 4) 1 0 ((set2 at0 n h ns no sx ox).getD (0,0,0,[],[])).2.2.1],false,false⟩,⟨1,2,86,((set2 at0 n h ns no sx ox).getD (0,0,0,[],[])).2.2.2.1,false,true⟩,⟨1,2,31,((set2 at0 n h ns no sx ox).getD (0,0,0,[],[])).2.2.2.2,false,true⟩]))
theorem xUT:OmOk Tryz.prog ITryz 68 xRV:=xfA fun vv bb rr hh' hh=>by
 obtain ⟨at0,⟨n,⟨_,⟨_,⟨_,_⟩⟩⟩⟩⟩:=vv
 obtain ⟨⟨h,_⟩,⟨⟨ns,_⟩,⟨⟨no,_⟩,⟨sx,⟨ox,_⟩⟩⟩⟩⟩:=bb
 obtain ⟨hh1,hh2⟩:=Prod.mk.inj hh
 cases hs:xpa at0 n h ns no sx ox with
 | none=>rw [show set2 at0 n h ns no sx ox=none by unfold set2;rw [hs];rfl] at hh1;simp at hh1
 | some p =>
  have hs2:set2 at0 n h ns no sx ox=br (Nat.beq p.2.1 p.2.2.2.2.2.2.1&&Nat.beq p.2.2.2.1 p.2.2.2.2.2.2.2.2) (some (p.1,p.2.2.1,p.2.2.2.2.1,p.2.2.2.2.2.1,p.2.2.2.2.2.2.2.1)) none:=by unfold set2;rw [hs];rfl
  cases ht:Nat.beq p.2.1 p.2.2.2.2.2.2.1&&Nat.beq p.2.2.2.1 p.2.2.2.2.2.2.2.2 with
  | false=>rw [hs2,ht] at hh1;simp [br] at hh1
  | true =>
   rw [ht] at hs2
   have hs3:set2 at0 n h ns no sx ox=some (p.1,p.2.2.1,p.2.2.2.2.1,p.2.2.2.2.2.1,p.2.2.2.2.2.2.2.1):=hs2
   rw [hs3] at hh2
   simp only [Option.getD_some] at hh2
   simp only [Bool.and_eq_true] at ht
   have e1:=Nat.eq_of_beq_eq_true ht.1
   have e2:=Nat.eq_of_beq_eq_true ht.2
   have hx:=xMR at0 n h ns no sx ox p hs
   have hg:GoodM Tryz.prog ITryz 68 _ _ _ _:=xdr (p:=xng.pin) (xdI mxTryz (inv0Ok Tryz.prog _) rfl xGn rfl Tryz.func68 rfl (by kernel_rfl) xC0 hx)
   rw [←e1,←e2] at hg
   have hg2:=GoodM.aged rfl (fun bx hb=>by simp only [List.getElem?_cons_zero,List.getElem?_cons_succ,Option.some.injEq] at hb;subst hb;rfl) (fun bx hb=>by simp only [List.getElem?_cons_zero,List.getElem?_cons_succ,Option.some.injEq] at hb;subst hb;rfl) rfl rfl rfl rfl rfl hg
   obtain ⟨rfl,rfl⟩:=Prod.mk.inj hh2
   exact hg2
noncomputable def ESet:Env:=EKP1.withM 68 xRV
theorem xIW:OrcOk Tryz.prog ITryz ESet:=xEe.withM xUT
end M
end Go.Sim
end
noncomputable section
set_option maxRecDepth 100000
namespace Go.Sim.M
open Go.IntKind (i64 u64 u8)
open Go.RowKit Go.Proofs
def xi8:Env:=ESet.fn 30 0 (lsOf []) (lpsOf [])
theorem xD4:OrcOk Tryz.prog (ITryz.at 0) xi8:=xIW.fn
theorem xyZ:LoOk Tryz.prog (ITryz.at xi8.pin) xi8 (loopAt Tryz.f44 0):=xaq (by kernel_rfl)
def xoY (a:LA) (h b:Int) (f c:Nat) (g:Int) (d e:LA):Int:=if 0>((a.getD b.toNat .top).cells.getD 1 .top).toInt then 0 else ((a.getD b.toNat .top).cells.getD 1 .top).toInt
def xoX (f:LA) (h g:Int) (d a:Nat) (e:Int) (b c:LA):=set2 ((f.getD g.toNat .top).cells.getD 0 .top).toInt (if 1048576<xoY f h g d a e b c then 1048576 else xoY f h g d a e b c) e a d c b
def xoW (f:LA) (g h:Int) (d a:Nat) (e:Int) (b c:LA):=(xoX f g h d a e b c).getD (0,0,0,[],[])
def xoV (f:LA) (g h:Int) (d a:Nat) (e:Int) (b c:LA):=(xoW f g h d a e b c).snd
def xoT (f:LA) (g h:Int) (d a:Nat) (e:Int) (b c:LA):=(xoV f g h d a e b c).fst
def xoU (f:LA) (g h:Int) (d a:Nat) (e:Int) (b c:LA):=(xoV f g h d a e b c).snd
def xoS (f:LA) (g h:Int) (d a:Nat) (e:Int) (b c:LA):=(xoU f g h d a e b c).snd
def xjv {T:Type} (f:LA) (h d:Int) (e a:Nat) (g:Int) (b c:LA) (δ:T) (κl:(Int×Nat×Nat×Int×LA×LA)→T) (κr:(Nat×Int×Nat×LA×LA)→T):T:=br (decide (d<h)) (br (decide (0≤d)&&decide (d<f.length)) (br (decide (d.toNat<f.length)&&((f.getD d.toNat .top).cells.length==2&&hasShs [Sh.int .i64,Sh.int .i64] (f.getD d.toNat .top).cells 0)) (br ((xoX f h d e a g b c).isSome) (κl (i64.wrap (d+1),(xoU f h d e a g b c).fst,xoT f h d e a g b c,(xoW f h d e a g b c).fst,(xoS f h d e a g b c).snd,List.take (xoT f h d e a g b c) (xoS f h d e a g b c).fst)) δ) δ) δ) (κr (e,g,a,b,c))
def xcI (f:LA) (g:Int):(Int×Nat×Nat×Int×LA×LA)→Option ((Int×Nat×Nat×Int×LA×LA)⊕(Nat×Int×Nat×LA×LA)):=fun (h,d,a,e,b,c)=>xjv f g h d a e b c none (fun s=>some (.inl s)) (fun p=>some (.inr p))
def xhz (f:LA) (g:Int):(Int×Nat×Nat×Int×LA×LA)→LA×List Box:=fun (h,d,a,e,b,c)=>([AV.own 0 0 0 0,AV.own 1 0 0 0,AV.func 68 [AV.own 2 0 0 0,AV.own 1 0 0 0,AV.own 0 0 0 0],AV.list 2 f,AV.int .i64 g,AV.int .i64 h],[⟨0,1,53,[AV.osl 3 0 0 d],false,false⟩,⟨0,1,84,[AV.osl 4 0 0 a],false,false⟩,⟨0,1,3,[AV.int .i64 e],false,true⟩,⟨0,2,31,b,false,true⟩,⟨0,2,86,c,false,true⟩])
def xf9 (a:LA) (b:Int):(Nat×Int×Nat×LA×LA)→LR:=fun p=>(.leaf (.exit 0) [AV.own 0 0 0 0,AV.func 68 [AV.own 1 0 0 0,AV.own 2 0 0 0,AV.own 0 0 0 0]] [⟨0,1,53,[AV.osl 3 0 0 p.1],false,false⟩,⟨0,1,3,[AV.int .i64 p.2.1],false,true⟩,⟨0,1,84,[AV.osl 4 0 0 p.2.2.1],false,false⟩,⟨0,2,31,p.2.2.2.1,false,true⟩,⟨0,2,86,p.2.2.2.2,false,true⟩])
abbrev xFq (a:LA) (H:List Box):=XR Tryz.prog xi8 [3,4,6,10,11,12] [3,6] [(3,2,31),(4,2,86),(4,0,0)] (loopAt Tryz.f44 0) a H
theorem xFr (a:LA) (b:Int) (s:Int×Nat×Nat×Int×LA×LA):Enc (encR (xhz a b) (xf9 a b)) (xcI a b s) (xFq (xhz a b s).1 (xhz a b s).2):=by
 obtain ⟨h,f,c,g,d,e⟩:=s
 refine eV (xjv a b h f c g d e none (fun s=>some (encR (xhz a b) (xf9 a b) (.inl s))) (fun p=>some (encR (xhz a b) (xf9 a b) (.inr p)))) (by kernel_rfl) ?_;unfold xcI xjv;repeat' first|exact eN|exact eS rfl|apply eB
def xuu:Lp:=lpOf [3,4,6,10,11,12] [3,6] [(3,2,31),(4,2,86),(4,0,0)] (pCons (pOwn 0 0 0 0) (pCons (pOwn 1 0 0 0) (pCons (pFunc 68 (pCons (pOwn 2 0 0 0) (pCons (pOwn 1 0 0 0) (pCons (pOwn 0 0 0 0) pNil)))) (pCons (pList 2 pAny) (pCons (pInt .i64) (pCons (pInt .i64) pNil)))))) (pCons (pBox 0 1 53 false false (pCons (pOsl 3 0 0) pNil)) (pCons (pBox 0 1 84 false false (pCons (pOsl 4 0 0) pNil)) (pCons (pBox 0 1 3 false true (pCons (pInt .i64) pNil)) (pCons (pBox 0 2 31 false true pAny) (pCons (pBox 0 2 86 false true pAny) pNil))))) fun (_,(_,((_,(_,(_,_))),(e,(f,(h,_)))))) ((d,_),((a,_),((g,_),(b,(c,_)))))=>((Iter (xcI e f) (h,d,a,g,b,c)).isSome,xf9 e f ((Iter (xcI e f) (h,d,a,g,b,c)).getD (0,0,0,[],[])))
theorem xCi:LoopOk Tryz.prog (ITryz.at xi8.pin) xi8.nt (loopAt Tryz.f44 0) xuu:=xaP fun j k m l=>by
 obtain ⟨_,⟨_,⟨⟨_,⟨_,⟨_,_⟩⟩⟩,⟨d,⟨e,⟨h,_⟩⟩⟩⟩⟩⟩:=j
 obtain ⟨⟨f,_⟩,⟨⟨a,_⟩,⟨⟨g,_⟩,⟨b,⟨c,_⟩⟩⟩⟩⟩:=k
 obtain ⟨i,rfl⟩:=Prod.mk.inj l
 exact xar mxTryz (inv0Ok Tryz.prog _) rfl xD4 xyZ (xhz d e) (xf9 d e) (fun p=>by simp only [xf9,LR.eval];first|(simp;done)|(repeat' split<;>simp)) (xFr d e) (s:=(h,f,a,g,b,c)) (xab i)
def xlG:Env:=ESet.fn 30 0 (lsOf []) (lpsOf [(6,xuu)])
theorem xD5:OrcOk Tryz.prog (ITryz.at 0) xlG:=xIW.fn
theorem xBi:LoOk Tryz.prog (ITryz.at xlG.pin) xlG (Tryz.f44.body.getD .skip):=xaM (ls:=[loopAt Tryz.f44 0]) (by kernel_rfl) (lkC xCi lkN)
def xsI (l:LA):=Iter (xcI l (↑l.length:Int)) (0,0,0,0,[],[])
def xsH (l:LA):=(xsI l).getD (0,0,0,[],[])
def xsG (l:LA):=(xsH l).snd
def xsF (l:LA):=(xsG l).snd
def xsE (l:LA):=(xsF l).snd
def xsD (l:LA):=set2 1099511627776 0 (xsG l).fst (xsF l).fst (xsH l).fst (xsE l).snd (xsE l).fst
def xsC (l:LA):=((xsD l).getD (0,0,0,[],[])).snd.snd
def xlH (l:LA):=(xsC l).fst
def xlI (l:LA):=(xsC l).snd.snd
def xpG {T:Type} (l:LA) (δ:T) (κ:LA→T):T:=br ((xsI l).isSome) (br ((xsD l).isSome) (br ((xlH l).beq (xlI l).length&&(decide (xlH l<4611686018427387904)&&(xlI l).all isP)) (br (decide (0+xlH l≤(srtP (xlI l)).length)&&true) (κ (List.take (xlH l) (List.drop 0 (srtP (xlI l))))) δ) δ) δ) δ
def xit (l:LA):Option (LA):=xpG l none some
theorem xJ3 (l:LA):Enc (fun (p:LA)=>((AV.list 2 p):AV)) (xit l) (XF Tryz.prog xlG Tryz.f44 (Tryz.f44.body.getD .skip) [AV.list 2 l]):=by
 refine eV (xpG l none (fun (p:LA)=>some ((AV.list 2 p):AV))) (by kernel_rfl) ?_;unfold xit xpG;repeat' first|exact eN|exact eS rfl|apply eB
def xAc:LA→Option (Bool×AV):=ocOf (sCons (sList 2 pAny) sNil) fun (l,_)=>((xit l).isSome,(AV.list 2 ((xit l).getD [])))
theorem xJ2:OcOk Tryz.prog ITryz 44 (xAc):=xaL fun c f e=>by
 obtain ⟨l,_⟩:=c
 obtain ⟨a,b⟩:=Prod.mk.inj e
 refine xaI (p:=xlG.pin) (xaK mxTryz (inv0Ok Tryz.prog _) rfl xD5 Tryz.func44 rfl (by kernel_rfl) xBi ((xJ3 _ _ (xab (d:=[]) a)).trans ?_))
 exact congrArg some b
def xL1:Env:=ESet.with 44 xAc
theorem xKd:OrcOk Tryz.prog ITryz xL1:=xIW.with xJ2
def xj3:Env:=xL1.fn 10 0 (lsOf []) (lpsOf [])
theorem xBG:OrcOk Tryz.prog (ITryz.at 0) xj3:=xKd.fn
theorem xzg:LoOk Tryz.prog (ITryz.at xj3.pin) xj3 (Tryz.f43.body.getD .skip):=xaq (by kernel_rfl)
def xnU {T:Type} (a:LA) (δ:T) (κ:LA→T):T:=br ((↑a.length:Int)==1) (κ (a)) (br ((xdj a).isSome) (br ((xit ((xdj a).getD [])).isSome) (κ ((xit ((xdj a).getD [])).getD [])) δ) δ)
def xdZ (a:LA):Option (LA):=xnU a none some
theorem xHo (a:LA):Enc (fun (p:LA)=>((AV.list 2 p):AV)) (xdZ a) (XF Tryz.prog xj3 Tryz.f43 (Tryz.f43.body.getD .skip) [AV.list 2 a]):=by
 refine eV (xnU a none (fun (p:LA)=>some ((AV.list 2 p):AV))) (by kernel_rfl) ?_;unfold xdZ xnU;repeat' first|exact eN|exact eS rfl|apply eB
def xwC:LA→Option (Bool×AV):=ocOf (sCons (sList 2 pAny) sNil) fun (a,_)=>((xdZ a).isSome,(AV.list 2 ((xdZ a).getD [])))
theorem xHn:OcOk Tryz.prog ITryz 43 (xwC):=xaL fun c f e=>by
 obtain ⟨g,_⟩:=c
 obtain ⟨a,b⟩:=Prod.mk.inj e
 refine xaI (p:=xj3.pin) (xaK mxTryz (inv0Ok Tryz.prog _) rfl xBG Tryz.func43 rfl (by kernel_rfl) xzg ((xHo _ _ (xab (d:=[]) a)).trans ?_))
 exact congrArg some b
def xQq:Env:=xL1.with 43 xwC
theorem xQr:OrcOk Tryz.prog ITryz xQq:=xKd.with xHn
abbrev EKP3:Env:=xQq
theorem xEf:OrcOk Tryz.prog ITryz EKP3:=xQr
end Go.Sim.M
end
noncomputable section
set_option maxRecDepth 100000
namespace Go.Sim.M
open Go.IntKind (i64 u64 u8)
open Go.RowKit Go.Proofs
def xkH:Env:=EKP3.fn 49 0 (lsOf []) (lpsOf [])
theorem xGS:OrcOk Tryz.prog (ITryz.at 0) xkH:=xEf.fn
theorem xBd:LoOk Tryz.prog (ITryz.at xkH.pin) xkH (loopAt Tryz.f99 0):=xaq (by kernel_rfl)
def xlB {T:Type} (b e:LA) (f:Int) (c:Nat) (a:Int) (d:LA) (δ:T) (κl:(Nat×Int×LA)→T) (κr:(Nat×LA)→T):T:=br (decide (a<f)) (br (decide (0≤a)&&decide (a<e.length)) (br (decide (a.toNat<e.length)&&((e.getD a.toNat .top).cells.length==2&&hasShs [Sh.int .i64,Sh.int .i64] (e.getD a.toNat .top).cells 0)) (br (xgd ((e.getD a.toNat .top).cells.getD 0 .top).toInt ((e.getD a.toNat .top).cells.getD 1 .top).toInt) (br (c==d.length&&(decide ((c+2)*24≤140737488355328)&&decide (c+2≤4611686018427387904))) (κl (c+2,i64.wrap (a+1),d++[AV.agg [AV.int .i64 ((e.getD a.toNat .top).cells.getD 0 .top).toInt,AV.int .i64 1,AV.int .i64 0],AV.agg [AV.int .i64 ((e.getD a.toNat .top).cells.getD 1 .top).toInt,AV.int .i64 (-1),AV.int .i64 0]])) δ) (κl (c,i64.wrap (a+1),d))) δ) δ) (κr (c,d))
def xcd (b d:LA) (e:Int):(Nat×Int×LA)→Option ((Nat×Int×LA)⊕(Nat×LA)):=fun (c,f,a)=>xlB b d e c f a none (fun s=>some (.inl s)) (fun p=>some (.inr p))
def xi4 (b d:LA) (e:Int):(Nat×Int×LA)→LA×List Box:=fun (c,f,a)=>([AV.list 2 b,AV.osl 0 0 0 c,AV.list 2 d,AV.int .i64 e,AV.int .i64 f],[⟨0,3,117,a,false,true⟩])
def xhu (b a:LA) (c:Int):(Nat×LA)→LR:=fun p=>(.leaf (.exit 0) [AV.list 2 b,AV.osl 0 0 0 p.1] [⟨0,3,117,p.2,false,true⟩])
abbrev xIt (a:LA) (H:List Box):=XR Tryz.prog xkH [1,5,10,11,12] [1,5] [(5,3,117)] (loopAt Tryz.f99 0) a H
theorem xIu (b a:LA) (c:Int) (s:Nat×Int×LA):Enc (encR (xi4 b a c) (xhu b a c)) (xcd b a c s) (xIt (xi4 b a c s).1 (xi4 b a c s).2):=by
 obtain ⟨e,f,d⟩:=s
 refine eV (xlB b a c e f d none (fun s=>some (encR (xi4 b a c) (xhu b a c) (.inl s))) (fun p=>some (encR (xi4 b a c) (xhu b a c) (.inr p)))) (by kernel_rfl) ?_;unfold xcd xlB;repeat' first|exact eN|exact eS rfl|apply eB
def xq1:Lp:=lpOf [1,5,10,11,12] [1,5] [(5,3,117)] (pCons (pList 2 pAny) (pCons (pOsl 0 0 0) (pCons (pList 2 pAny) (pCons (pInt .i64) (pCons (pInt .i64) pNil))))) (pCons (pBox 0 3 117 false true pAny) pNil) fun (b,(c,(d,(e,(f,_))))) (a,_)=>((Iter (xcd b d e) (c,f,a)).isSome,xhu b d e ((Iter (xcd b d e) (c,f,a)).getD (0,[])))
theorem xFk:LoopOk Tryz.prog (ITryz.at xkH.pin) xkH.nt (loopAt Tryz.f99 0) xq1:=xaP fun h i k j=>by
 obtain ⟨b,⟨e,⟨a,⟨c,⟨f,_⟩⟩⟩⟩⟩:=h
 obtain ⟨d,_⟩:=i
 obtain ⟨g,rfl⟩:=Prod.mk.inj j
 exact xar mxTryz (inv0Ok Tryz.prog _) rfl xGS xBd (xi4 b a c) (xhu b a c) (fun p=>by simp only [xhu,LR.eval];first|(simp;done)|(repeat' split<;>simp)) (xIu b a c) (s:=(e,f,d)) (xab g)
def xkI:Env:=EKP3.fn 49 0 (lsOf []) (lpsOf [(3,xq1)])
theorem xGT:OrcOk Tryz.prog (ITryz.at 0) xkI:=xEf.fn
theorem xBe:LoOk Tryz.prog (ITryz.at xkI.pin) xkI (loopAt Tryz.f99 1):=xaq (by kernel_rfl)
def xlC {T:Type} (d:LA) (e:Int) (b:Nat) (a:Int) (c:LA) (δ:T) (κl:(Nat×Int×LA)→T) (κr:(Nat×LA)→T):T:=br (decide (a<e)) (br (decide (0≤a)&&decide (a<d.length)) (br (decide (a.toNat<d.length)&&((d.getD a.toNat .top).cells.length==2&&hasShs [Sh.int .i64,Sh.int .i64] (d.getD a.toNat .top).cells 0)) (br (xgd ((d.getD a.toNat .top).cells.getD 0 .top).toInt ((d.getD a.toNat .top).cells.getD 1 .top).toInt) (br (b==c.length&&(decide ((b+2)*24≤140737488355328)&&decide (b+2≤4611686018427387904))) (κl (b+2,i64.wrap (a+1),c++[AV.agg [AV.int .i64 ((d.getD a.toNat .top).cells.getD 0 .top).toInt,AV.int .i64 0,AV.int .i64 1],AV.agg [AV.int .i64 ((d.getD a.toNat .top).cells.getD 1 .top).toInt,AV.int .i64 0,AV.int .i64 (-1)]])) δ) (κl (b,i64.wrap (a+1),c))) δ) δ) (κr (b,c))
def xdg (c:LA) (d:Int):(Nat×Int×LA)→Option ((Nat×Int×LA)⊕(Nat×LA)):=fun (b,e,a)=>xlC c d b e a none (fun s=>some (.inl s)) (fun p=>some (.inr p))
def xi5 (c:LA) (d:Int):(Nat×Int×LA)→LA×List Box:=fun (b,e,a)=>([AV.osl 0 0 0 b,AV.list 2 c,AV.int .i64 d,AV.int .i64 e],[⟨0,3,117,a,false,true⟩])
def xhv (a:LA) (b:Int):(Nat×LA)→LR:=fun p=>(.leaf (.exit 2) [AV.osl 0 0 0 p.1] [⟨0,3,117,p.2,false,true⟩])
abbrev xIv (a:LA) (H:List Box):=XR Tryz.prog xkI [5,28,29,30] [5] [(5,3,117)] (loopAt Tryz.f99 1) a H
theorem xIw (a:LA) (b:Int) (s:Nat×Int×LA):Enc (encR (xi5 a b) (xhv a b)) (xdg a b s) (xIv (xi5 a b s).1 (xi5 a b s).2):=by
 obtain ⟨d,e,c⟩:=s
 refine eV (xlC a b d e c none (fun s=>some (encR (xi5 a b) (xhv a b) (.inl s))) (fun p=>some (encR (xi5 a b) (xhv a b) (.inr p)))) (by kernel_rfl) ?_;unfold xdg xlC;repeat' first|exact eN|exact eS rfl|apply eB
def xv7:Lp:=lpOf [5,28,29,30] [5] [(5,3,117)] (pCons (pOsl 0 0 0) (pCons (pList 2 pAny) (pCons (pInt .i64) (pCons (pInt .i64) pNil)))) (pCons (pBox 0 3 117 false true pAny) pNil) fun (b,(c,(d,(e,_)))) (a,_)=>((Iter (xdg c d) (b,e,a)).isSome,xhv c d ((Iter (xdg c d) (b,e,a)).getD (0,[])))
theorem xFl:LoopOk Tryz.prog (ITryz.at xkI.pin) xkI.nt (loopAt Tryz.f99 1) xv7:=xaP fun g h j i=>by
 obtain ⟨d,⟨a,⟨b,⟨e,_⟩⟩⟩⟩:=g
 obtain ⟨c,_⟩:=h
 obtain ⟨f,rfl⟩:=Prod.mk.inj i
 exact xar mxTryz (inv0Ok Tryz.prog _) rfl xGT xBe (xi5 a b) (xhv a b) (fun p=>by simp only [xhv,LR.eval];first|(simp;done)|(repeat' split<;>simp)) (xIw a b) (s:=(d,e,c)) (xab f)
def xnp:Env:=EKP3.fn 49 0 (lsOf []) (lpsOf [(3,xq1),(9,xv7)])
theorem xGU:OrcOk Tryz.prog (ITryz.at 0) xnp:=xEf.fn
theorem xDx:LoOk Tryz.prog (ITryz.at xnp.pin) xnp (Tryz.f99.body.getD .skip):=xaM (ls:=[loopAt Tryz.f99 0,loopAt Tryz.f99 1]) (by kernel_rfl) (lkC xFk (lkC xFl lkN))
def xqH (a b:LA):=(Iter (xcd b a (↑a.length:Int)) (0,0,[])).getD (0,[])
def xqG (a b:LA):=Iter (xdg b (↑b.length:Int)) ((xqH a b).fst,0,(xqH a b).snd)
def xqF (a b:LA):=(xqG a b).getD (0,[])
def xkJ (a b:LA):=(xqF a b).fst
def xkK (a b:LA):=(xqF a b).snd
def xsB {T:Type} (a b:LA) (δ:T) (κ:LA→T):T:=br ((Iter (xcd b a (↑a.length:Int)) (0,0,[])).isSome) (br ((xqG a b).isSome) (br ((xkJ a b).beq (xkK a b).length&&(decide (xkJ a b<4611686018427387904)&&(xkK a b).all isE)) (br (decide (0+xkJ a b≤(srtE (xkK a b)).length)&&true) (κ (List.take (xkJ a b) (List.drop 0 (srtE (xkK a b))))) δ) δ) δ) δ
def xih (a b:LA):Option (LA):=xsB a b none some
theorem xNl (a b:LA):Enc (fun (p:LA)=>((AV.list 3 p):AV)) (xih a b) (XF Tryz.prog xnp Tryz.f99 (Tryz.f99.body.getD .skip) [AV.list 2 a,AV.list 2 b]):=by
 refine eV (xsB a b none (fun (p:LA)=>some ((AV.list 3 p):AV))) (by kernel_rfl) ?_;unfold xih xsB;repeat' first|exact eN|exact eS rfl|apply eB
def xD0:LA→Option (Bool×AV):=ocOf (sCons (sList 2 pAny) (sCons (sList 2 pAny) sNil)) fun (a,(b,_))=>((xih a b).isSome,(AV.list 3 ((xih a b).getD [])))
theorem xNk:OcOk Tryz.prog ITryz 99 (xD0):=xaL fun f h g=>by
 obtain ⟨a,⟨b,_⟩⟩:=f
 obtain ⟨c,e⟩:=Prod.mk.inj g
 refine xaI (p:=xnp.pin) (xaK mxTryz (inv0Ok Tryz.prog _) rfl xGU Tryz.func99 rfl (by kernel_rfl) xDx ((xNl _ _ _ (xab (d:=[]) c)).trans ?_))
 exact congrArg some e
def xL2:Env:=EKP3.with 99 xD0
theorem xKe:OrcOk Tryz.prog ITryz xL2:=xEf.with xNk
def xmH:Env:=xL2.fn 6 0 (lsOf []) (lpsOf [])
theorem xIr:OrcOk Tryz.prog (ITryz.at 0) xmH:=xKe.fn
theorem xFj:LoOk Tryz.prog (ITryz.at xmH.pin) xmH (Tryz.f77.body.getD .skip):=xaq (by kernel_rfl)
def xmY (a b:Bool):Bool:=((a))
def xBB (a b:Bool):Bool:=true
def xFW {T:Type} (a b:Bool) (δ:T) (κ:Bool→T):T:=κ (a)
theorem xOb (a b:Bool):Pre (xBB a b) (XF Tryz.prog xmH Tryz.f77 (Tryz.f77.body.getD .skip) [AV.bool a,AV.bool b]) (AV.bool (xmY a b)):=by
 have h:XF Tryz.prog xmH Tryz.f77 (Tryz.f77.body.getD .skip) [AV.bool a,AV.bool b]=xFW a b none (fun (p:Bool)=>some ((AV.bool p):AV)):=by kernel_rfl
 rw [h];unfold xmY xBB xFW;repeat' (first|exact Pre.none|exact Pre.tt rfl|exact Pre.some rfl|refine Pre.l ?_|refine Pre.r ?_|refine Pre.br (f:=fun (p:Bool)=>((AV.bool p):AV)) ?_ ?_|refine Pre.brt (f:=fun (p:Bool)=>((AV.bool p):AV)) ?_ ?_)
def xFV:LA→Option (Bool×AV):=ocOf (sCons (sEq pBool) (sCons (sEq pBool) sNil)) fun (a,(b,_))=>(true,(AV.bool (xmY a b)))
theorem xOa:OcOk Tryz.prog ITryz 77 (xFV):=xaL fun c f d=>by
 obtain ⟨a,⟨g,_⟩⟩:=c
 obtain ⟨e,b⟩:=Prod.mk.inj d
 refine xaI (p:=xmH.pin) (xaK mxTryz (inv0Ok Tryz.prog _) rfl xIr Tryz.func77 rfl (by kernel_rfl) xFj ((Pre.get (xOb _ _) rfl).trans ?_))
 exact congrArg some b
def xCm:Env:=xL2.with 77 xFV
theorem xwu:OrcOk Tryz.prog ITryz xCm:=xKe.with xOa
def xi6:Env:=xCm.fn 92 0 (lsOf []) (lpsOf [])
theorem xD1:OrcOk Tryz.prog (ITryz.at 0) xi6:=xwu.fn
theorem xyX:LoOk Tryz.prog (ITryz.at xi6.pin) xi6 (loopAt Tryz.f76 1):=xaq (by kernel_rfl)
def xoR (l:LA) (i:Int):=decide (0≤i)&&decide (i<l.length)
def xp0 {T:Type} (l:LA) (e:Nat) (d b c i:Int) (a:LA) (δ:T) (κl:(Int×Int×Int×LA)→T) (κr:(Int×Int×Int×LA)→T):T:=br (decide (i<l.length)) (br (xoR l i) (br (decide (i.toNat<l.length)&&hasSh1 (Sh.int .i64) ((l.getD i.toNat .top).cells.getD 0 .top)) (br (((l.getD i.toNat .top).cells.getD 0 .top).toInt==d) (br (xoR l i) (br (decide (i.toNat<l.length)&&hasSh1 (Sh.int .i64) ((l.getD i.toNat .top).cells.getD 1 .top)) (br (xoR l i) (br (decide (i.toNat<l.length)&&hasSh1 (Sh.int .i64) ((l.getD i.toNat .top).cells.getD 2 .top)) (κl (i64.wrap (b+((l.getD i.toNat .top).cells.getD 1 .top).toInt),i64.wrap (c+((l.getD i.toNat .top).cells.getD 2 .top).toInt),i64.wrap (i+1),a)) δ) δ) δ) δ) (κr (b,c,i,a))) δ) δ) (κr (b,c,i,a))
def xfg (l:LA) (b:Nat) (c:Int):(Int×Int×Int×LA)→Option ((Int×Int×Int×LA)⊕(Int×Int×Int×LA)):=fun (d,e,i,a)=>xp0 l b c d e i a none (fun s=>some (.inl s)) (fun p=>some (.inr p))
def xhy (l:LA) (b:Nat) (c:Int):(Int×Int×Int×LA)→LA×List Box:=fun (d,e,i,a)=>([AV.func 77 [],AV.list 3 l,AV.osl 0 0 0 b,AV.int .i64 d,AV.int .i64 e,AV.int .i64 i,AV.int .i64 c],[⟨0,2,31,a,false,true⟩])
def xf8 (l:LA) (a:Nat) (b:Int):(Int×Int×Int×LA)→LR:=fun p=>(.leaf (.exit 2) [AV.func 77 [],AV.list 3 l,AV.osl 0 0 0 a,AV.int .i64 p.1,AV.int .i64 p.2.1,AV.int .i64 p.2.2.1,AV.int .i64 b] [⟨0,2,31,p.2.2.2,false,true⟩])
abbrev xFo (a:LA) (H:List Box):=XR Tryz.prog xi6 [2,7,8,9,10,11,12] [2,7,8,9,10,11,12] [(8,2,31)] (loopAt Tryz.f76 1) a H
theorem xFp (l:LA) (a:Nat) (b:Int) (s:Int×Int×Int×LA):Enc (encR (xhy l a b) (xf8 l a b)) (xfg l a b s) (xFo (xhy l a b s).1 (xhy l a b s).2):=by
 obtain ⟨d,e,i,c⟩:=s
 refine eV (xp0 l a b d e i c none (fun s=>some (encR (xhy l a b) (xf8 l a b) (.inl s))) (fun p=>some (encR (xhy l a b) (xf8 l a b) (.inr p)))) (by kernel_rfl) ?_;unfold xfg xp0;repeat' first|exact eN|exact eS rfl|apply eB
def xoQ:Lp:=lpOf [2,7,8,9,10,11,12] [2,7,8,9,10,11,12] [(8,2,31)] (pCons (pFunc 77 pNil) (pCons (pList 3 pAny) (pCons (pOsl 0 0 0) (pCons (pInt .i64) (pCons (pInt .i64) (pCons (pInt .i64) (pCons (pInt .i64) pNil))))))) (pCons (pBox 0 2 31 false true pAny) pNil) fun (_,(l,(a,(d,(e,(i,(c,_))))))) (b,_)=>((Iter (xfg l a c) (d,e,i,b)).isSome,xf8 l a c ((Iter (xfg l a c) (d,e,i,b)).getD (0,0,0,[])))
theorem xtf:LoopOk Tryz.prog (ITryz.at xi6.pin) xi6.nt (loopAt Tryz.f76 1) xoQ:=xaP fun e f k g=>by
 obtain ⟨_,⟨l,⟨a,⟨h,⟨j,⟨i,⟨b,_⟩⟩⟩⟩⟩⟩⟩:=e
 obtain ⟨c,_⟩:=f
 obtain ⟨d,rfl⟩:=Prod.mk.inj g
 exact xar mxTryz (inv0Ok Tryz.prog _) rfl xD1 xyX (xhy l a b) (xf8 l a b) (fun p=>by simp only [xf8,LR.eval];first|(simp;done)|(repeat' split<;>simp)) (xFp l a b) (s:=(h,j,i,c)) (xab d)
def xi7:Env:=xCm.fn 92 0 (lsOf []) (lpsOf [(6,xoQ)])
theorem xD2:OrcOk Tryz.prog (ITryz.at 0) xi7:=xwu.fn
theorem xyY:LoOk Tryz.prog (ITryz.at xi7.pin) xi7 (loopAt Tryz.f76 0):=xaM (ls:=[loopAt Tryz.f76 1]) (by kernel_rfl) (lkC xtf lkN)
def xlF (a:Nat):=decide (0≤i64.wrap ((↑a:Int) - 1))&&decide (i64.wrap ((↑a:Int) - 1)<(↑a:Int))
def xte (l:LA) (b:Nat) (d e i c:Int) (a:LA):=(Iter (xfg l b c) (d,e,i,a)).getD (0,0,0,[])
def xbH (a:Nat):Nat:=0+(i64.wrap ((↑a:Int) - 1)).toNat
def xut (l:LA) (b:Nat) (d e i c:Int) (a:LA):=(xte l b d e i c a).snd
def xdi (l:LA) (b:Nat) (d e i c:Int) (a:LA):=(xte l b d e i c a).fst
def xus (l:LA) (b:Nat) (d e i c:Int) (a:LA):=(xut l b d e i c a).snd
def xdh (l:LA) (b:Nat) (d e i c:Int) (a:LA):=(xut l b d e i c a).fst
def xaN (l:LA) (b:Nat) (d e i c:Int) (a:LA):=(xus l b d e i c a).snd
def xuq (l:LA) (b:Nat) (d e i c:Int) (a:LA):=xmY (decide (xdi l b d e i c a>0)) (decide (xdh l b d e i c a>0))
def xaQ (l:LA) (b:Nat) (d e i c:Int) (a:LA):=(xus l b d e i c a).fst
def xlE (l:LA) (a:Nat) (d e i c:Int) (b:LA):=decide (xbH a<(xaN l a d e i c b).length)
def xur (l:LA) (b:Nat) (d e i c:Int) (a:LA):=decide (xaQ l b d e i c a<l.length)
def xpx {T:Type} (l:LA) (a:Nat) (d e i c:Int) (b:LA) (δ:T) (κl:(Nat×Int×Int×Int×Int×LA)→T) (κr:(Nat×LA)→T):T:=br (decide (c<1099511627776)) (br ((Iter (xfg l a c) (d,e,i,b)).isSome) (br (xur l a d e i c b) (br (decide (0≤xaQ l a d e i c b)&&xur l a d e i c b) (br (decide ((xaQ l a d e i c b).toNat<l.length)&&hasSh1 (Sh.int .i64) ((l.getD (xaQ l a d e i c b).toNat .top).cells.getD 0 .top)) (br (xuq l a d e i c b) (br (decide ((↑a:Int)>0)) (br (xlF a) (br (xlE l a d e i c b&&hasSh1 (Sh.int .i64) (((xaN l a d e i c b).getD (xbH a) .top).cells.getD 1 .top)) (br ((((xaN l a d e i c b).getD (xbH a) .top).cells.getD 1 .top).toInt==c) (br (xlF a) (br (xlE l a d e i c b) (κl (a,xdi l a d e i c b,xdh l a d e i c b,xaQ l a d e i c b,((l.getD (xaQ l a d e i c b).toNat .top).cells.getD 0 .top).toInt,(xaN l a d e i c b).set (xbH a) (AV.agg (List.take 1 ((xaN l a d e i c b).getD (xbH a) .top).cells++[AV.int .i64 ((l.getD (xaQ l a d e i c b).toNat .top).cells.getD 0 .top).toInt]++List.drop 2 ((xaN l a d e i c b).getD (xbH a) .top).cells)))) δ) δ) (br (a==(xaN l a d e i c b).length&&(decide ((a+1)*16≤140737488355328)&&decide (a+1≤4611686018427387904))) (κl (a+1,xdi l a d e i c b,xdh l a d e i c b,xaQ l a d e i c b,((l.getD (xaQ l a d e i c b).toNat .top).cells.getD 0 .top).toInt,xaN l a d e i c b++[AV.agg [AV.int .i64 c,AV.int .i64 ((l.getD (xaQ l a d e i c b).toNat .top).cells.getD 0 .top).toInt]])) δ)) δ) δ) (br (a==(xaN l a d e i c b).length&&(decide ((a+1)*16≤140737488355328)&&decide (a+1≤4611686018427387904))) (κl (a+1,xdi l a d e i c b,xdh l a d e i c b,xaQ l a d e i c b,((l.getD (xaQ l a d e i c b).toNat .top).cells.getD 0 .top).toInt,xaN l a d e i c b++[AV.agg [AV.int .i64 c,AV.int .i64 ((l.getD (xaQ l a d e i c b).toNat .top).cells.getD 0 .top).toInt]])) δ)) (κl (a,xdi l a d e i c b,xdh l a d e i c b,xaQ l a d e i c b,((l.getD (xaQ l a d e i c b).toNat .top).cells.getD 0 .top).toInt,xaN l a d e i c b))) δ) δ) (br (xuq l a d e i c b) (br (decide ((↑a:Int)>0)) (br (xlF a) (br (xlE l a d e i c b&&hasSh1 (Sh.int .i64) (((xaN l a d e i c b).getD (xbH a) .top).cells.getD 1 .top)) (br ((((xaN l a d e i c b).getD (xbH a) .top).cells.getD 1 .top).toInt==c) (br (xlF a) (br (xlE l a d e i c b) (κl (a,xdi l a d e i c b,xdh l a d e i c b,xaQ l a d e i c b,1099511627776,(xaN l a d e i c b).set (xbH a) (AV.agg (List.take 1 ((xaN l a d e i c b).getD (xbH a) .top).cells++[AV.int .i64 1099511627776]++List.drop 2 ((xaN l a d e i c b).getD (xbH a) .top).cells)))) δ) δ) (br (a==(xaN l a d e i c b).length&&(decide ((a+1)*16≤140737488355328)&&decide (a+1≤4611686018427387904))) (κl (a+1,xdi l a d e i c b,xdh l a d e i c b,xaQ l a d e i c b,1099511627776,xaN l a d e i c b++[AV.agg [AV.int .i64 c,AV.int .i64 1099511627776]])) δ)) δ) δ) (br (a==(xaN l a d e i c b).length&&(decide ((a+1)*16≤140737488355328)&&decide (a+1≤4611686018427387904))) (κl (a+1,xdi l a d e i c b,xdh l a d e i c b,xaQ l a d e i c b,1099511627776,xaN l a d e i c b++[AV.agg [AV.int .i64 c,AV.int .i64 1099511627776]])) δ)) (κl (a,xdi l a d e i c b,xdh l a d e i c b,xaQ l a d e i c b,1099511627776,xaN l a d e i c b)))) δ) (κr (a,b))
def xg0 (l:LA):(Nat×Int×Int×Int×Int×LA)→Option ((Nat×Int×Int×Int×Int×LA)⊕(Nat×LA)):=fun (b,d,e,i,c,a)=>xpx l b d e i c a none (fun s=>some (.inl s)) (fun p=>some (.inr p))
def xhw (l:LA):(Nat×Int×Int×Int×Int×LA)→LA×List Box:=fun (b,d,e,i,c,a)=>([AV.func 77 [],AV.list 3 l,AV.osl 0 0 0 b,AV.int .i64 d,AV.int .i64 e,AV.int .i64 i,AV.int .i64 c],[⟨0,2,31,a,false,true⟩])
def xf7 (l:LA):(Nat×LA)→LR:=fun p=>(.leaf (.exit 0) [AV.osl 0 0 0 p.1] [⟨0,2,31,p.2,false,true⟩])
abbrev xFm (a:LA) (H:List Box):=XR Tryz.prog xi7 [2,7,8,9,10,11,12] [8] [(8,2,31)] (loopAt Tryz.f76 0) a H
theorem xFn (l:LA) (s:Nat×Int×Int×Int×Int×LA):Enc (encR (xhw l) (xf7 l)) (xg0 l s) (xFm (xhw l s).1 (xhw l s).2):=by
 obtain ⟨b,d,e,i,c,a⟩:=s
 refine eV (xpx l b d e i c a none (fun s=>some (encR (xhw l) (xf7 l) (.inl s))) (fun p=>some (encR (xhw l) (xf7 l) (.inr p)))) (by kernel_rfl) ?_;unfold xg0 xpx;repeat' first|exact eN|exact eS rfl|apply eB
def xup:Lp:=lpOf [2,7,8,9,10,11,12] [8] [(8,2,31)] (pCons (pFunc 77 pNil) (pCons (pList 3 pAny) (pCons (pOsl 0 0 0) (pCons (pInt .i64) (pCons (pInt .i64) (pCons (pInt .i64) (pCons (pInt .i64) pNil))))))) (pCons (pBox 0 2 31 false true pAny) pNil) fun (_,(l,(b,(d,(e,(i,(c,_))))))) (a,_)=>((Iter (xg0 l) (b,d,e,i,c,a)).isSome,xf7 l ((Iter (xg0 l) (b,d,e,i,c,a)).getD (0,[])))
theorem xCh:LoopOk Tryz.prog (ITryz.at xi7.pin) xi7.nt (loopAt Tryz.f76 0) xup:=xaP fun e f k g=>by
 obtain ⟨_,⟨l,⟨b,⟨h,⟨j,⟨i,⟨c,_⟩⟩⟩⟩⟩⟩⟩:=e
 obtain ⟨a,_⟩:=f
 obtain ⟨d,rfl⟩:=Prod.mk.inj g
 exact xar mxTryz (inv0Ok Tryz.prog _) rfl xD2 xyY (xhw l) (xf7 l) (fun p=>by simp only [xf7,LR.eval];first|(simp;done)|(repeat' split<;>simp)) (xFn l) (s:=(b,h,j,i,c,a)) (xab d)
def xlD:Env:=xCm.fn 92 0 (lsOf []) (lpsOf [(6,xoQ),(5,xup)])
theorem xD3:OrcOk Tryz.prog (ITryz.at 0) xlD:=xwu.fn
theorem xBg:LoOk Tryz.prog (ITryz.at xlD.pin) xlD (Tryz.f76.body.getD .skip):=xaM (ls:=[loopAt Tryz.f76 0,loopAt Tryz.f76 1]) (by kernel_rfl) (lkC xCh (lkC xtf lkN))
def xw2 (a b:LA):=Iter (xg0 ((xih a b).getD [])) (0,0,0,0,0,[])
def xw1 (a b:LA):=(xw2 a b).getD (0,[])
def xwx (a b:LA):=(xw1 a b).snd
def xw0 (a b:LA):=(xw1 a b).fst
def xtB {T:Type} (a b:LA) (δ:T) (κ:LA→T):T:=br ((xih a b).isSome) (br ((xw2 a b).isSome) (br (decide (0+xw0 a b≤(xwx a b).length)&&true) (κ (List.take (xw0 a b) (List.drop 0 (xwx a b)))) δ) δ) δ
def xkf (a b:LA):Option (LA):=xtB a b none some
theorem xJ1 (a b:LA):Enc (fun (p:LA)=>((AV.list 2 p):AV)) (xkf a b) (XF Tryz.prog xlD Tryz.f76 (Tryz.f76.body.getD .skip) [AV.list 2 a,AV.list 2 b,AV.func (77:FuncId) []]):=by
 refine eV (xtB a b none (fun (p:LA)=>some ((AV.list 2 p):AV))) (by kernel_rfl) ?_;unfold xkf xtB;repeat' first|exact eN|exact eS rfl|apply eB
def xAb:LA→Option (Bool×AV):=ocOf (sCons (sList 2 pAny) (sCons (sList 2 pAny) (sCons (sEq (pFunc (77:FuncId) pNil)) sNil))) fun (a,(b,(_,_)))=>((xkf a b).isSome,(AV.list 2 ((xkf a b).getD [])))
theorem xJ0:OcOk Tryz.prog ITryz 76 (xAb):=xaL fun f h g=>by
 obtain ⟨a,⟨b,⟨_,_⟩⟩⟩:=f
 obtain ⟨c,e⟩:=Prod.mk.inj g
 refine xaI (p:=xlD.pin) (xaK mxTryz (inv0Ok Tryz.prog _) rfl xD3 Tryz.func76 rfl (by kernel_rfl) xBg ((xJ1 _ _ _ (xab (d:=[]) c)).trans ?_))
 exact congrArg some e
def xL3:Env:=xCm.with 76 xAb
theorem xKf:OrcOk Tryz.prog ITryz xL3:=xwu.with xJ0
def xsA:Env:=xL3.fn 5 0 (lsOf []) (lpsOf [])
theorem xLv:OrcOk Tryz.prog (ITryz.at 0) xsA:=xKf.fn
theorem xIs:LoOk Tryz.prog (ITryz.at xsA.pin) xsA (Tryz.f49.body.getD .skip):=xaq (by kernel_rfl)
def xwZ {T:Type} (l:LA) (δ:T) (κ:LA→T):T:=br ((xkf l []).isSome) (κ ((xkf l []).getD [])) δ
def xmG (l:LA):Option (LA):=xwZ l none some
theorem xRY (l:LA):Enc (fun (p:LA)=>((AV.list 2 p):AV)) (xmG l) (XF Tryz.prog xsA Tryz.f49 (Tryz.f49.body.getD .skip) [AV.list 2 l]):=by
 refine eV (xwZ l none (fun (p:LA)=>some ((AV.list 2 p):AV))) (by kernel_rfl) ?_;unfold xmG xwZ;repeat' first|exact eN|exact eS rfl|apply eB
def xK0:LA→Option (Bool×AV):=ocOf (sCons (sList 2 pAny) sNil) fun (l,_)=>((xmG l).isSome,(AV.list 2 ((xmG l).getD [])))
theorem xRX:OcOk Tryz.prog ITryz 49 (xK0):=xaL fun c f e=>by
 obtain ⟨l,_⟩:=c
 obtain ⟨a,b⟩:=Prod.mk.inj e
 refine xaI (p:=xsA.pin) (xaK mxTryz (inv0Ok Tryz.prog _) rfl xLv Tryz.func49 rfl (by kernel_rfl) xIs ((xRY _ _ (xab (d:=[]) a)).trans ?_))
 exact congrArg some b
def xQs:Env:=xL3.with 49 xK0
theorem xQt:OrcOk Tryz.prog ITryz xQs:=xKf.with xRX
abbrev EKP4:Env:=xQs
theorem xEg:OrcOk Tryz.prog ITryz EKP4:=xQt
end Go.Sim.M
end
noncomputable section
set_option maxRecDepth 100000
namespace Go.Sim.M
open Go.IntKind (i64 u64 u8)
open Go.RowKit Go.Proofs
def xfq:Env:=EKP4.fn 38 0 (lsOf [42]) (lpsOf [])
theorem xye:OrcOk Tryz.prog (ITryz.at 0) xfq:=xEg.fn
theorem xuz:LoOk Tryz.prog (ITryz.at xfq.pin) xfq (loopAt Tryz.f42 1):=xaq (by kernel_rfl)
def xgr {T:Type} (h:LA) (i j:Int) (e:LA) (f:Int) (a:Nat) (b:Int) (c d g:LA) (δ:T) (κl:(Nat×Int×LA×LA×LA)→T) (κr:(Nat×LA)→T):T:=br (decide (b<f)) (br (decide (0≤b)&&decide (b<e.length)) (br (decide (b.toNat<e.length)&&((e.getD b.toNat .top).cells.length==2&&hasShs [Sh.int .i64,Sh.int .i64] (e.getD b.toNat .top).cells 0)) (br (decide (d.length*32≤140737488355328)&&decide (d.length≤4611686018427387904)) (br (decide (0+d.length≤d.length)&&true&&true&&true&&true) (br (a==c.length&&(decide ((a+1)*40≤140737488355328)&&decide (a+1≤4611686018427387904))) (κl (a+1,i64.wrap (b+1),c++[AV.agg [AV.list 3 (List.take d.length (List.drop 0 d)),AV.int .i64 ((e.getD b.toNat .top).cells.getD 0 .top).toInt,AV.int .i64 ((e.getD b.toNat .top).cells.getD 1 .top).toInt]],d,g)) δ) δ) δ) δ) δ) (κr (a,c))
def xbw (c:LA) (d e:Int) (f:LA) (g:Int):(Nat×Int×LA×LA×LA)→Option ((Nat×Int×LA×LA×LA)⊕(Nat×LA)):=fun (b,h,a,i,j)=>xgr c d e f g b h a i j none (fun s=>some (.inl s)) (fun p=>some (.inr p))
def xev (c:LA) (d e:Int) (f:LA) (g:Int):(Nat×Int×LA×LA×LA)→LA×List Box:=fun (b,h,a,i,j)=>([AV.func 43 [],AV.osl 0 0 0 b,AV.own 1 0 0 0,AV.list 2 c,AV.int .i64 d,AV.int .i64 e,AV.list 2 f,AV.int .i64 g,AV.int .i64 h],[⟨0,3,42,a,false,true⟩,⟨0,2,83,[AV.agg [AV.list 3 i,AV.list 2 j]],false,true⟩])
def xdM (a:LA) (b c:Int) (d:LA) (e:Int):(Nat×LA)→LR:=fun p=>(.leaf (.exit 2) [AV.func 43 [],AV.osl 0 0 0 p.1,AV.list 2 a,AV.int .i64 b,AV.int .i64 c] [⟨0,3,42,p.2,false,true⟩])
abbrev xzn (a:LA) (H:List Box):=XR Tryz.prog xfq [1,5,7,11,12,13,20,21,22] [1,5,11,12,13] [(5,3,42)] (loopAt Tryz.f42 1) a H
theorem xzo (a:LA) (b c:Int) (d:LA) (e:Int) (s:Nat×Int×LA×LA×LA):Enc (encR (xev a b c d e) (xdM a b c d e)) (xbw a b c d e s) (xzn (xev a b c d e s).1 (xev a b c d e s).2):=by
 obtain ⟨g,h,f,i,j⟩:=s
 refine eV (xgr a b c d e g h f i j none (fun s=>some (encR (xev a b c d e) (xdM a b c d e) (.inl s))) (fun p=>some (encR (xev a b c d e) (xdM a b c d e) (.inr p)))) (by kernel_rfl) ?_;unfold xbw xgr;repeat' first|exact eN|exact eS rfl|apply eB
def xlP:Lp:=lpOf [1,5,7,11,12,13,20,21,22] [1,5,11,12,13] [(5,3,42)] (pCons (pFunc 43 pNil) (pCons (pOsl 0 0 0) (pCons (pOwn 1 0 0 0) (pCons (pList 2 pAny) (pCons (pInt .i64) (pCons (pInt .i64) (pCons (pList 2 pAny) (pCons (pInt .i64) (pCons (pInt .i64) pNil))))))))) (pCons (pBox 0 3 42 false true pAny) (pCons (pBox 0 2 83 false true (pCons (pAgg (pCons (pList 3 pAny) (pCons (pList 2 pAny) pNil))) pNil)) pNil)) fun (_,(b,(_,(c,(d,(e,(f,(g,(h,_))))))))) (a,(((i,(j,_)),_),_))=>((Iter (xbw c d e f g) (b,h,a,i,j)).isSome,xdM c d e f g ((Iter (xbw c d e f g) (b,h,a,i,j)).getD (0,[])))
theorem xpM:LoopOk Tryz.prog (ITryz.at xfq.pin) xfq.nt (loopAt Tryz.f42 1) xlP:=xaP fun l m o n=>by
 obtain ⟨_,⟨g,⟨_,⟨a,⟨b,⟨c,⟨d,⟨e,⟨h,_⟩⟩⟩⟩⟩⟩⟩⟩⟩:=l
 obtain ⟨f,⟨⟨⟨i,⟨j,_⟩⟩,_⟩,_⟩⟩:=m
 obtain ⟨k,rfl⟩:=Prod.mk.inj n
 exact xar mxTryz (inv0Ok Tryz.prog _) rfl xye xuz (xev a b c d e) (xdM a b c d e) (fun p=>by simp only [xdM,LR.eval];first|(simp;done)|(repeat' split<;>simp)) (xzo a b c d e) (s:=(g,h,f,i,j)) (xab k)
def xfr:Env:=EKP4.fn 38 0 (lsOf [42]) (lpsOf [(6,xlP)])
theorem xyf:OrcOk Tryz.prog (ITryz.at 0) xfr:=xEg.fn
theorem xuA:LoOk Tryz.prog (ITryz.at xfr.pin) xfr (loopAt Tryz.f42 0):=xaM (ls:=[loopAt Tryz.f42 1]) (by kernel_rfl) (lkC xpM lkN)
def xlO (a:LA) (e:Int) (d:Nat) (b:Int) (c:LA):=Iter (xbw a e b ((xdZ ((a.getD b.toNat .top).cells.getD 1 .top).toList).getD []) (↑((xdZ ((a.getD b.toNat .top).cells.getD 1 .top).toList).getD []).length:Int)) (d,0,c,((a.getD b.toNat .top).cells.getD 0 .top).toList,((a.getD b.toNat .top).cells.getD 1 .top).toList)
def xlN (c:LA) (d:Int) (b:Nat) (e:Int) (a:LA):=(xlO c d b e a).getD (0,[])
def xgq {T:Type} (c:LA) (e:Int) (d:Nat) (a:Int) (b:LA) (δ:T) (κl:(Nat×Int×LA)→T) (κr:(Nat×LA)→T):T:=br (decide (a<e)) (br (decide (0≤a)&&decide (a<c.length)) (br (decide (a.toNat<c.length)&&((c.getD a.toNat .top).cells.length==2&&hasShs [Sh.list 3,Sh.list 2] (c.getD a.toNat .top).cells 0)) (br ((xdZ ((c.getD a.toNat .top).cells.getD 1 .top).toList).isSome) (br ((xlO c e d a b).isSome) (κl ((xlN c e d a b).fst,i64.wrap (a+1),(xlN c e d a b).snd)) δ) δ) δ) δ) (κr (d,b))
def xb3 (c:LA) (d:Int):(Nat×Int×LA)→Option ((Nat×Int×LA)⊕(Nat×LA)):=fun (b,e,a)=>xgq c d b e a none (fun s=>some (.inl s)) (fun p=>some (.inr p))
def xeu (c:LA) (d:Int):(Nat×Int×LA)→LA×List Box:=fun (b,e,a)=>([AV.func 43 [],AV.osl 0 0 0 b,AV.list 2 c,AV.int .i64 d,AV.int .i64 e],[⟨0,3,42,a,false,true⟩])
def xdL (a:LA) (b:Int):(Nat×LA)→LR:=fun p=>(.leaf (.exit 0) [AV.osl 0 0 0 p.1] [⟨0,3,42,p.2,false,true⟩])
abbrev xzl (a:LA) (H:List Box):=XR Tryz.prog xfr [1,5,11,12,13] [5] [(5,3,42)] (loopAt Tryz.f42 0) a H
theorem xzm (a:LA) (b:Int) (s:Nat×Int×LA):Enc (encR (xeu a b) (xdL a b)) (xb3 a b s) (xzl (xeu a b s).1 (xeu a b s).2):=by
 obtain ⟨d,e,c⟩:=s
 refine eV (xgq a b d e c none (fun s=>some (encR (xeu a b) (xdL a b) (.inl s))) (fun p=>some (encR (xeu a b) (xdL a b) (.inr p)))) (by kernel_rfl) ?_;unfold xb3 xgq;repeat' first|exact eN|exact eS rfl|apply eB
def xp5:Lp:=lpOf [1,5,11,12,13] [5] [(5,3,42)] (pCons (pFunc 43 pNil) (pCons (pOsl 0 0 0) (pCons (pList 2 pAny) (pCons (pInt .i64) (pCons (pInt .i64) pNil))))) (pCons (pBox 0 3 42 false true pAny) pNil) fun (_,(b,(c,(d,(e,_))))) (a,_)=>((Iter (xb3 c d) (b,e,a)).isSome,xdL c d ((Iter (xb3 c d) (b,e,a)).getD (0,[])))
theorem xwf:LoopOk Tryz.prog (ITryz.at xfr.pin) xfr.nt (loopAt Tryz.f42 0) xp5:=xaP fun g h j i=>by
 obtain ⟨_,⟨d,⟨a,⟨b,⟨e,_⟩⟩⟩⟩⟩:=g
 obtain ⟨c,_⟩:=h
 obtain ⟨f,rfl⟩:=Prod.mk.inj i
 exact xar mxTryz (inv0Ok Tryz.prog _) rfl xyf xuA (xeu a b) (xdL a b) (fun p=>by simp only [xdL,LR.eval];first|(simp;done)|(repeat' split<;>simp)) (xzm a b) (s:=(d,e,c)) (xab f)
def xhL:Env:=EKP4.fn 38 0 (lsOf [42]) (lpsOf [(6,xlP),(3,xp5)])
theorem xyg:OrcOk Tryz.prog (ITryz.at 0) xhL:=xEg.fn
theorem xvt:LoOk Tryz.prog (ITryz.at xhL.pin) xhL (Tryz.f42.body.getD .skip):=xaM (ls:=[loopAt Tryz.f42 0,loopAt Tryz.f42 1]) (by kernel_rfl) (lkC xwf (lkC xpM lkN))
def xnI (l:LA):=Iter (xb3 ((xdv l).getD []) (↑((xdv l).getD []).length:Int)) (0,0,[])
def xnH (l:LA):=(xnI l).getD (0,[])
def xnF (l:LA):=(xnH l).snd
def xnG (l:LA):=(xnH l).fst
def xkV {T:Type} (l:LA) (δ:T) (κ:LA→T):T:=br ((xdv l).isSome) (br ((xnI l).isSome) (br (decide (0+xnG l≤(xnF l).length)&&true) (κ (List.take (xnG l) (List.drop 0 (xnF l)))) δ) δ) δ
def xgi (l:LA):Option (LA):=xkV l none some
theorem xCM (l:LA):Enc (fun (p:LA)=>((AV.list 3 p):AV)) (xgi l) (XF Tryz.prog xhL Tryz.f42 (Tryz.f42.body.getD .skip) [AV.list 3 l,AV.func (43:FuncId) []]):=by
 refine eV (xkV l none (fun (p:LA)=>some ((AV.list 3 p):AV))) (by kernel_rfl) ?_;unfold xgi xkV;repeat' first|exact eN|exact eS rfl|apply eB
def xtQ:LA→Option (Bool×AV):=ocOf (sCons (sList 3 pAny) (sCons (sEq (pFunc (43:FuncId) pNil)) sNil)) fun (l,(_,_))=>((xgi l).isSome,(AV.list 3 ((xgi l).getD [])))
theorem xCL:OcOk Tryz.prog ITryz 42 (xtQ):=xaL fun c f e=>by
 obtain ⟨l,⟨_,_⟩⟩:=c
 obtain ⟨a,b⟩:=Prod.mk.inj e
 refine xaI (p:=xhL.pin) (xaK mxTryz (inv0Ok Tryz.prog _) rfl xyg Tryz.func42 rfl (by kernel_rfl) xvt ((xCM _ _ (xab (d:=[]) a)).trans ?_))
 exact congrArg some b
def xL4:Env:=EKP4.with 42 xtQ
theorem xKg:OrcOk Tryz.prog ITryz xL4:=xEg.with xCL
def xkR:Env:=xL4.fn 5 0 (lsOf []) (lpsOf [])
theorem xCJ:OrcOk Tryz.prog (ITryz.at 0) xkR:=xKg.fn
theorem xAn:LoOk Tryz.prog (ITryz.at xkR.pin) xkR (Tryz.f14.body.getD .skip):=xaq (by kernel_rfl)
def xo5 {T:Type} (l:LA) (δ:T) (κ:LA→T):T:=br ((xgi l).isSome) (κ ((xgi l).getD [])) δ
def xdy (l:LA):Option (LA):=xo5 l none some
theorem xI5 (l:LA):Enc (fun (p:LA)=>((AV.list 3 p):AV)) (xdy l) (XF Tryz.prog xkR Tryz.f14 (Tryz.f14.body.getD .skip) [AV.list 3 l]):=by
 refine eV (xo5 l none (fun (p:LA)=>some ((AV.list 3 p):AV))) (by kernel_rfl) ?_;unfold xdy xo5;repeat' first|exact eN|exact eS rfl|apply eB
def xzh:LA→Option (Bool×AV):=ocOf (sCons (sList 3 pAny) sNil) fun (l,_)=>((xdy l).isSome,(AV.list 3 ((xdy l).getD [])))
theorem xI4:OcOk Tryz.prog ITryz 14 (xzh):=xaL fun c f e=>by
 obtain ⟨l,_⟩:=c
 obtain ⟨a,b⟩:=Prod.mk.inj e
 refine xaI (p:=xkR.pin) (xaK mxTryz (inv0Ok Tryz.prog _) rfl xCJ Tryz.func14 rfl (by kernel_rfl) xAn ((xI5 _ _ (xab (d:=[]) a)).trans ?_))
 exact congrArg some b
def xCn:Env:=xL4.with 14 xzh
theorem xwv:OrcOk Tryz.prog ITryz xCn:=xKg.with xI4
def xfs:Env:=xCn.fn 38 0 (lsOf [42]) (lpsOf [])
theorem xyh:OrcOk Tryz.prog (ITryz.at 0) xfs:=xwv.fn
theorem xuB:LoOk Tryz.prog (ITryz.at xfs.pin) xfs (loopAt Tryz.f42 1):=xaq (by kernel_rfl)
def xmd {T:Type} (h:LA) (i j:Int) (e:LA) (f:Int) (a:Nat) (b:Int) (c d g:LA) (δ:T) (κl:(Nat×Int×LA×LA×LA)→T) (κr:(Nat×LA)→T):T:=br (decide (b<f)) (br (decide (0≤b)&&decide (b<e.length)) (br (decide (b.toNat<e.length)&&((e.getD b.toNat .top).cells.length==2&&hasShs [Sh.int .i64,Sh.int .i64] (e.getD b.toNat .top).cells 0)) (br (decide (d.length*32≤140737488355328)&&decide (d.length≤4611686018427387904)) (br (decide (0+d.length≤d.length)&&true&&true&&true&&true) (br (a==c.length&&(decide ((a+1)*40≤140737488355328)&&decide (a+1≤4611686018427387904))) (κl (a+1,i64.wrap (b+1),c++[AV.agg [AV.list 3 (List.take d.length (List.drop 0 d)),AV.int .i64 ((e.getD b.toNat .top).cells.getD 0 .top).toInt,AV.int .i64 ((e.getD b.toNat .top).cells.getD 1 .top).toInt]],d,g)) δ) δ) δ) δ) δ) (κr (a,c))
def xdz (c:LA) (d e:Int) (f:LA) (g:Int):(Nat×Int×LA×LA×LA)→Option ((Nat×Int×LA×LA×LA)⊕(Nat×LA)):=fun (b,h,a,i,j)=>xmd c d e f g b h a i j none (fun s=>some (.inl s)) (fun p=>some (.inr p))
def xey (c:LA) (d e:Int) (f:LA) (g:Int):(Nat×Int×LA×LA×LA)→LA×List Box:=fun (b,h,a,i,j)=>([AV.func 49 [],AV.osl 0 0 0 b,AV.own 1 0 0 0,AV.list 2 c,AV.int .i64 d,AV.int .i64 e,AV.list 2 f,AV.int .i64 g,AV.int .i64 h],[⟨0,3,42,a,false,true⟩,⟨0,2,83,[AV.agg [AV.list 3 i,AV.list 2 j]],false,true⟩])
def xdO (a:LA) (b c:Int) (d:LA) (e:Int):(Nat×LA)→LR:=fun p=>(.leaf (.exit 2) [AV.func 49 [],AV.osl 0 0 0 p.1,AV.list 2 a,AV.int .i64 b,AV.int .i64 c] [⟨0,3,42,p.2,false,true⟩])
abbrev xzr (a:LA) (H:List Box):=XR Tryz.prog xfs [1,5,7,11,12,13,20,21,22] [1,5,11,12,13] [(5,3,42)] (loopAt Tryz.f42 1) a H
theorem xzs (a:LA) (b c:Int) (d:LA) (e:Int) (s:Nat×Int×LA×LA×LA):Enc (encR (xey a b c d e) (xdO a b c d e)) (xdz a b c d e s) (xzr (xey a b c d e s).1 (xey a b c d e s).2):=by
 obtain ⟨g,h,f,i,j⟩:=s
 refine eV (xmd a b c d e g h f i j none (fun s=>some (encR (xey a b c d e) (xdO a b c d e) (.inl s))) (fun p=>some (encR (xey a b c d e) (xdO a b c d e) (.inr p)))) (by kernel_rfl) ?_;unfold xdz xmd;repeat' first|exact eN|exact eS rfl|apply eB
def xlS:Lp:=lpOf [1,5,7,11,12,13,20,21,22] [1,5,11,12,13] [(5,3,42)] (pCons (pFunc 49 pNil) (pCons (pOsl 0 0 0) (pCons (pOwn 1 0 0 0) (pCons (pList 2 pAny) (pCons (pInt .i64) (pCons (pInt .i64) (pCons (pList 2 pAny) (pCons (pInt .i64) (pCons (pInt .i64) pNil))))))))) (pCons (pBox 0 3 42 false true pAny) (pCons (pBox 0 2 83 false true (pCons (pAgg (pCons (pList 3 pAny) (pCons (pList 2 pAny) pNil))) pNil)) pNil)) fun (_,(b,(_,(c,(d,(e,(f,(g,(h,_))))))))) (a,(((i,(j,_)),_),_))=>((Iter (xdz c d e f g) (b,h,a,i,j)).isSome,xdO c d e f g ((Iter (xdz c d e f g) (b,h,a,i,j)).getD (0,[])))
theorem xpN:LoopOk Tryz.prog (ITryz.at xfs.pin) xfs.nt (loopAt Tryz.f42 1) xlS:=xaP fun l m o n=>by
 obtain ⟨_,⟨g,⟨_,⟨a,⟨b,⟨c,⟨d,⟨e,⟨h,_⟩⟩⟩⟩⟩⟩⟩⟩⟩:=l
 obtain ⟨f,⟨⟨⟨i,⟨j,_⟩⟩,_⟩,_⟩⟩:=m
 obtain ⟨k,rfl⟩:=Prod.mk.inj n
 exact xar mxTryz (inv0Ok Tryz.prog _) rfl xyh xuB (xey a b c d e) (xdO a b c d e) (fun p=>by simp only [xdO,LR.eval];first|(simp;done)|(repeat' split<;>simp)) (xzs a b c d e) (s:=(g,h,f,i,j)) (xab k)
def xft:Env:=xCn.fn 38 0 (lsOf [42]) (lpsOf [(6,xlS)])
theorem xyi:OrcOk Tryz.prog (ITryz.at 0) xft:=xwv.fn
theorem xuC:LoOk Tryz.prog (ITryz.at xft.pin) xft (loopAt Tryz.f42 0):=xaM (ls:=[loopAt Tryz.f42 1]) (by kernel_rfl) (lkC xpN lkN)
def xlR (a:LA) (e:Int) (d:Nat) (b:Int) (c:LA):=Iter (xdz a e b ((xmG ((a.getD b.toNat .top).cells.getD 1 .top).toList).getD []) (↑((xmG ((a.getD b.toNat .top).cells.getD 1 .top).toList).getD []).length:Int)) (d,0,c,((a.getD b.toNat .top).cells.getD 0 .top).toList,((a.getD b.toNat .top).cells.getD 1 .top).toList)
def xlQ (c:LA) (d:Int) (b:Nat) (e:Int) (a:LA):=(xlR c d b e a).getD (0,[])
def xgs {T:Type} (c:LA) (e:Int) (d:Nat) (a:Int) (b:LA) (δ:T) (κl:(Nat×Int×LA)→T) (κr:(Nat×LA)→T):T:=br (decide (a<e)) (br (decide (0≤a)&&decide (a<c.length)) (br (decide (a.toNat<c.length)&&((c.getD a.toNat .top).cells.length==2&&hasShs [Sh.list 3,Sh.list 2] (c.getD a.toNat .top).cells 0)) (br ((xmG ((c.getD a.toNat .top).cells.getD 1 .top).toList).isSome) (br ((xlR c e d a b).isSome) (κl ((xlQ c e d a b).fst,i64.wrap (a+1),(xlQ c e d a b).snd)) δ) δ) δ) δ) (κr (d,b))
def xb4 (c:LA) (d:Int):(Nat×Int×LA)→Option ((Nat×Int×LA)⊕(Nat×LA)):=fun (b,e,a)=>xgs c d b e a none (fun s=>some (.inl s)) (fun p=>some (.inr p))
def xew (c:LA) (d:Int):(Nat×Int×LA)→LA×List Box:=fun (b,e,a)=>([AV.func 49 [],AV.osl 0 0 0 b,AV.list 2 c,AV.int .i64 d,AV.int .i64 e],[⟨0,3,42,a,false,true⟩])
def xdN (a:LA) (b:Int):(Nat×LA)→LR:=fun p=>(.leaf (.exit 0) [AV.osl 0 0 0 p.1] [⟨0,3,42,p.2,false,true⟩])
abbrev xzp (a:LA) (H:List Box):=XR Tryz.prog xft [1,5,11,12,13] [5] [(5,3,42)] (loopAt Tryz.f42 0) a H
theorem xzq (a:LA) (b:Int) (s:Nat×Int×LA):Enc (encR (xew a b) (xdN a b)) (xb4 a b s) (xzp (xew a b s).1 (xew a b s).2):=by
 obtain ⟨d,e,c⟩:=s
 refine eV (xgs a b d e c none (fun s=>some (encR (xew a b) (xdN a b) (.inl s))) (fun p=>some (encR (xew a b) (xdN a b) (.inr p)))) (by kernel_rfl) ?_;unfold xb4 xgs;repeat' first|exact eN|exact eS rfl|apply eB
def xp6:Lp:=lpOf [1,5,11,12,13] [5] [(5,3,42)] (pCons (pFunc 49 pNil) (pCons (pOsl 0 0 0) (pCons (pList 2 pAny) (pCons (pInt .i64) (pCons (pInt .i64) pNil))))) (pCons (pBox 0 3 42 false true pAny) pNil) fun (_,(b,(c,(d,(e,_))))) (a,_)=>((Iter (xb4 c d) (b,e,a)).isSome,xdN c d ((Iter (xb4 c d) (b,e,a)).getD (0,[])))
theorem xwg:LoopOk Tryz.prog (ITryz.at xft.pin) xft.nt (loopAt Tryz.f42 0) xp6:=xaP fun g h j i=>by
 obtain ⟨_,⟨d,⟨a,⟨b,⟨e,_⟩⟩⟩⟩⟩:=g
 obtain ⟨c,_⟩:=h
 obtain ⟨f,rfl⟩:=Prod.mk.inj i
 exact xar mxTryz (inv0Ok Tryz.prog _) rfl xyi xuC (xew a b) (xdN a b) (fun p=>by simp only [xdN,LR.eval];first|(simp;done)|(repeat' split<;>simp)) (xzq a b) (s:=(d,e,c)) (xab f)
def xhM:Env:=xCn.fn 38 0 (lsOf [42]) (lpsOf [(6,xlS),(3,xp6)])
theorem xyj:OrcOk Tryz.prog (ITryz.at 0) xhM:=xwv.fn
theorem xvu:LoOk Tryz.prog (ITryz.at xhM.pin) xhM (Tryz.f42.body.getD .skip):=xaM (ls:=[loopAt Tryz.f42 0,loopAt Tryz.f42 1]) (by kernel_rfl) (lkC xwg (lkC xpN lkN))
def xnM (l:LA):=Iter (xb4 ((xdv l).getD []) (↑((xdv l).getD []).length:Int)) (0,0,[])
def xnL (l:LA):=(xnM l).getD (0,[])
def xnJ (l:LA):=(xnL l).snd
def xnK (l:LA):=(xnL l).fst
def xkW {T:Type} (l:LA) (δ:T) (κ:LA→T):T:=br ((xdv l).isSome) (br ((xnM l).isSome) (br (decide (0+xnK l≤(xnJ l).length)&&true) (κ (List.take (xnK l) (List.drop 0 (xnJ l)))) δ) δ) δ
def xgj (l:LA):Option (LA):=xkW l none some
theorem xCO (l:LA):Enc (fun (p:LA)=>((AV.list 3 p):AV)) (xgj l) (XF Tryz.prog xhM Tryz.f42 (Tryz.f42.body.getD .skip) [AV.list 3 l,AV.func (49:FuncId) []]):=by
 refine eV (xkW l none (fun (p:LA)=>some ((AV.list 3 p):AV))) (by kernel_rfl) ?_;unfold xgj xkW;repeat' first|exact eN|exact eS rfl|apply eB
def xtR:LA→Option (Bool×AV):=ocOf (sCons (sList 3 pAny) (sCons (sEq (pFunc (49:FuncId) pNil)) sNil)) fun (l,(_,_))=>((xgj l).isSome,(AV.list 3 ((xgj l).getD [])))
theorem xCN:OcOk Tryz.prog ITryz 42 (xtR):=xaL fun c f e=>by
 obtain ⟨l,⟨_,_⟩⟩:=c
 obtain ⟨a,b⟩:=Prod.mk.inj e
 refine xaI (p:=xhM.pin) (xaK mxTryz (inv0Ok Tryz.prog _) rfl xyj Tryz.func42 rfl (by kernel_rfl) xvu ((xCO _ _ (xab (d:=[]) a)).trans ?_))
 exact congrArg some b
def xL5:Env:=xCn.with 42 xtR
theorem xKh:OrcOk Tryz.prog ITryz xL5:=xwv.with xCN
def xkU:Env:=xL5.fn 5 0 (lsOf []) (lpsOf [])
theorem xCK:OrcOk Tryz.prog (ITryz.at 0) xkU:=xKh.fn
theorem xAs:LoOk Tryz.prog (ITryz.at xkU.pin) xkU (Tryz.f16.body.getD .skip):=xaq (by kernel_rfl)
def xo6 {T:Type} (l:LA) (δ:T) (κ:LA→T):T:=br ((xgj l).isSome) (κ ((xgj l).getD [])) δ
def xgL (l:LA):Option (LA):=xo6 l none some
theorem xI7 (l:LA):Enc (fun (p:LA)=>((AV.list 3 p):AV)) (xgL l) (XF Tryz.prog xkU Tryz.f16 (Tryz.f16.body.getD .skip) [AV.list 3 l]):=by
 refine eV (xo6 l none (fun (p:LA)=>some ((AV.list 3 p):AV))) (by kernel_rfl) ?_;unfold xgL xo6;repeat' first|exact eN|exact eS rfl|apply eB
def xzk:LA→Option (Bool×AV):=ocOf (sCons (sList 3 pAny) sNil) fun (l,_)=>((xgL l).isSome,(AV.list 3 ((xgL l).getD [])))
theorem xI6:OcOk Tryz.prog ITryz 16 (xzk):=xaL fun c f e=>by
 obtain ⟨l,_⟩:=c
 obtain ⟨a,b⟩:=Prod.mk.inj e
 refine xaI (p:=xkU.pin) (xaK mxTryz (inv0Ok Tryz.prog _) rfl xCK Tryz.func16 rfl (by kernel_rfl) xAs ((xI7 _ _ (xab (d:=[]) a)).trans ?_))
 exact congrArg some b
def xQu:Env:=xL5.with 16 xzk
theorem xQv:OrcOk Tryz.prog ITryz xQu:=xKh.with xI6
abbrev EKP5:Env:=xQu
theorem xTD:OrcOk Tryz.prog ITryz EKP5:=xQv
end Go.Sim.M
end
noncomputable section
set_option maxRecDepth 100000
namespace Go.Sim.M
open Go.IntKind (i64 u64 u8)
open Go.RowKit Go.Proofs
abbrev xTm:Env:=EKP5
theorem xSf:OrcOk Tryz.prog ITryz xTm:=xTD
abbrev xTn:Env:=xTm
theorem xSg:OrcOk Tryz.prog ITryz xTn:=xSf
abbrev xTo:Env:=xTn
theorem xSh:OrcOk Tryz.prog ITryz xTo:=xSg
abbrev xTp:Env:=xTo
theorem xSi:OrcOk Tryz.prog ITryz xTp:=xSh
abbrev xTq:Env:=xTp
theorem xSj:OrcOk Tryz.prog ITryz xTq:=xSi
abbrev xTr:Env:=xTq
theorem xSk:OrcOk Tryz.prog ITryz xTr:=xSj
abbrev xTs:Env:=xTr
theorem xSl:OrcOk Tryz.prog ITryz xTs:=xSk
abbrev xTt:Env:=xTs
theorem xSm:OrcOk Tryz.prog ITryz xTt:=xSl
abbrev EKV:Env:=xTt
theorem xHf:OrcOk Tryz.prog ITryz EKV:=xSm
end Go.Sim.M
end
noncomputable section
set_option maxRecDepth 100000
namespace Go.Sim.M
open Go.IntKind (i64 u64 u8)
open Go.RowKit Go.Proofs
def xhr:Env:=EKV.fn 61 1 (lsOf []) (lpsOf [])
theorem xA5:OrcOk Tryz.prog (ITryz.at 1) xhr:=xHf.fn
theorem xvX:LoOk Tryz.prog (ITryz.at xhr.pin) xhr (loopAt Tryz.f55 1):=xaq (by kernel_rfl)
def xjG (b:Nat) (c:Int) (a:LA):=decide (b+c.toNat<a.length)&&hasSh1 (Sh.int .i64) ((a.getD (b+c.toNat) .top).cells.getD 0 .top)
def xf4 {T:Type} (e c d:Nat) (k b:Int) (a:LA) (δ:T) (κl:(Int×Int×LA)→T) (κr:(Int×LA)→T):T:=br (decide (b<(↑d:Int))) (br (decide (0≤b)&&decide (b<(↑d:Int))) (br (xjG c b a) (br (decide (0≤i64.wrap (b - 1))&&decide (i64.wrap (b - 1)<(↑d:Int))) (br (decide (c+(i64.wrap (b - 1)).toNat<a.length)&&hasSh1 (Sh.int .i64) ((a.getD (c+(i64.wrap (b - 1)).toNat) .top).cells.getD 0 .top)) (br (((a.getD (c+b.toNat) .top).cells.getD 0 .top).toInt != ((a.getD (c+(i64.wrap (b - 1)).toNat) .top).cells.getD 0 .top).toInt) (br (decide (0≤b)&&decide (b<(↑d:Int))) (br (xjG c b a) (br (decide (0≤k)&&decide (k<(↑e:Int))) (br (decide (0+k.toNat<a.length)) (κl (i64.wrap (k+1),i64.wrap (b+1),a.set (0+k.toNat) (AV.int .i64 ((a.getD (c+b.toNat) .top).cells.getD 0 .top).toInt))) δ) δ) δ) δ) (κl (k,i64.wrap (b+1),a))) δ) δ) δ) δ) (κr (k,a))
def xbv (b c d:Nat):(Int×Int×LA)→Option ((Int×Int×LA)⊕(Int×LA)):=fun (k,e,a)=>xf4 b c d k e a none (fun s=>some (.inl s)) (fun p=>some (.inr p))
def xf3 (b c d:Nat):(Int×Int×LA)→LA×List Box:=fun (k,e,a)=>([AV.osl 0 0 0 b,AV.int .i64 k,AV.osl 0 0 c d,AV.int .i64 e],[⟨0,1,3,a,false,true⟩])
def xeD (a b c:Nat):(Int×LA)→LR:=fun p=>(.leaf (.exit 2) [AV.osl 0 0 0 a,AV.int .i64 p.1] [⟨0,1,3,p.2,false,true⟩])
abbrev xCe (a:LA) (H:List Box):=XR Tryz.prog xhr [0,3,4,5] [0,3] [] (loopAt Tryz.f55 1) a H
theorem xCf (a b c:Nat) (s:Int×Int×LA):Enc (encR (xf3 a b c) (xeD a b c)) (xbv a b c s) (xCe (xf3 a b c s).1 (xf3 a b c s).2):=by
 obtain ⟨k,e,d⟩:=s
 refine eV (xf4 a b c k e d none (fun s=>some (encR (xf3 a b c) (xeD a b c) (.inl s))) (fun p=>some (encR (xf3 a b c) (xeD a b c) (.inr p)))) (by kernel_rfl) ?_;unfold xbv xf4;repeat' first|exact eN|exact eS rfl|apply eB
def xnb:Lp:=lpOf [0,3,4,5] [0,3] [] (pCons (pOsl 0 0 0) (pCons (pInt .i64) (pCons (pOslO 0 0) (pCons (pInt .i64) pNil)))) (pCons (pBox 0 1 3 false true pAny) pNil) fun (a,(k,((b,c),(e,_)))) (d,_)=>((Iter (xbv a b c) (k,e,d)).isSome,xeD a b c ((Iter (xbv a b c) (k,e,d)).getD (0,[])))
theorem xri:LoopOk Tryz.prog (ITryz.at xhr.pin) xhr.nt (loopAt Tryz.f55 1) xnb:=xaP fun f g j h=>by
 obtain ⟨a,⟨k,⟨⟨b,c⟩,⟨i,_⟩⟩⟩⟩:=f
 obtain ⟨d,_⟩:=g
 obtain ⟨e,rfl⟩:=Prod.mk.inj h
 exact xar mxTryz (inv0Ok Tryz.prog _) rfl xA5 xvX (xf3 a b c) (xeD a b c) (fun p=>by simp only [xeD,LR.eval];first|(simp;done)|(repeat' split<;>simp)) (xCf a b c) (s:=(k,i,d)) (xab e)
def xhs:Env:=EKV.fn 61 1 (lsOf []) (lpsOf [(9,xnb)])
theorem xA6:OrcOk Tryz.prog (ITryz.at 1) xhs:=xHf.fn
theorem xvY:LoOk Tryz.prog (ITryz.at xhs.pin) xhs (loopAt Tryz.f55 0):=xaM (ls:=[loopAt Tryz.f55 1]) (by kernel_rfl) (lkC xri lkN)
def xna (a:Nat) (k:Int) (b:LA):=Iter (xbv a (0+k.toNat) (a - k.toNat)) (k,1,b)
def xm9 (b:Nat) (k:Int) (a:LA):=(xna b k a).getD (0,[])
def xjE (b:Nat) (k:Int) (a:LA):=(xm9 b k a).snd
def xjF (b:Nat) (k:Int) (a:LA):=(xm9 b k a).fst
def xm7 (a:Nat) (k:Int) (b:LA):=decide (0≤xjF a k b)&&decide (xjF a k b≤(↑a:Int))
def xe5 (b:Nat) (k:Int) (a:LA):=(xjF b k a).toNat
def xm8 (a:Nat) (k:Int) (b:LA):Nat:=0+xe5 a k b+(a - xe5 a k b)
def xf2 {T:Type} (b:Nat) (k:Int) (a:LA) (δ:T) (κl:(Int×LA)→T) (κr:(Bool×(Nat×LA)×(LA))→T):T:=br (decide (k<(↑b:Int))) (br (decide (0≤k)&&decide (k<(↑b:Int))) (br (decide (0+k.toNat<a.length)&&hasSh1 (Sh.int .i64) ((a.getD (0+k.toNat) .top).cells.getD 0 .top)) (br (decide (0≤i64.wrap (k - 1))&&decide (i64.wrap (k - 1)<(↑b:Int))) (br (decide (0+(i64.wrap (k - 1)).toNat<a.length)&&hasSh1 (Sh.int .i64) ((a.getD (0+(i64.wrap (k - 1)).toNat) .top).cells.getD 0 .top)) (br (((a.getD (0+k.toNat) .top).cells.getD 0 .top).toInt==((a.getD (0+(i64.wrap (k - 1)).toNat) .top).cells.getD 0 .top).toInt) (br (decide (0≤k)&&decide (k≤(↑b:Int))) (br ((xna b k a).isSome) (br (xm7 b k a) (br (decide (xm8 b k a≤(xjE b k a).length)) (br (xm7 b k a&&true) (κr (true,(xe5 b k a - 0,List.take (0+xe5 b k a) (xjE b k a)++(List.replicate (b - xe5 b k a) (AV.int .i64 0)++List.drop (xm8 b k a) (xjE b k a))),[])) δ) δ) δ) δ) δ) (κl (i64.wrap (k+1),a))) δ) δ) δ) δ) (κr (false,(0,[]),(a)))
def xax (b:Nat):(Int×LA)→Option ((Int×LA)⊕(Bool×(Nat×LA)×(LA))):=fun (k,a)=>xf2 b k a none (fun s=>some (.inl s)) (fun p=>some (.inr p))
def xf1 (b:Nat):(Int×LA)→LA×List Box:=fun (k,a)=>([AV.osl 0 0 0 b,AV.int .i64 k],[⟨0,1,3,a,false,true⟩])
def xeC (a:Nat):(Bool×(Nat×LA)×(LA))→LR:=fun p=>(.node p.1 (.leaf .ret [AV.osl 0 0 0 a,AV.osl 0 0 0 p.2.1.1] [⟨0,1,3,p.2.1.2,false,true⟩]) (.leaf (.exit 0) [AV.osl 0 0 0 a,.top] [⟨0,1,3,p.2.2,false,true⟩]))
abbrev xCc (a:LA) (H:List Box):=XR Tryz.prog xhs [0,3] [0,2] [] (loopAt Tryz.f55 0) a H
theorem xCd (a:Nat) (s:Int×LA):Enc (encR (xf1 a) (xeC a)) (xax a s) (xCc (xf1 a s).1 (xf1 a s).2):=by
 obtain ⟨k,b⟩:=s
 refine eV (xf2 a k b none (fun s=>some (encR (xf1 a) (xeC a) (.inl s))) (fun p=>some (encR (xf1 a) (xeC a) (.inr p)))) (by kernel_rfl) ?_;unfold xax xf2;repeat' first|exact eN|exact eS rfl|apply eB
def xsp:Lp:=lpOf [0,3] [0,2] [] (pCons (pOsl 0 0 0) (pCons (pInt .i64) pNil)) (pCons (pBox 0 1 3 false true pAny) pNil) fun (a,(k,_)) (b,_)=>((Iter (xax a) (k,b)).isSome,xeC a ((Iter (xax a) (k,b)).getD (false,(0,[]),[])))
theorem xz7:LoopOk Tryz.prog (ITryz.at xhs.pin) xhs.nt (loopAt Tryz.f55 0) xsp:=xaP fun d e g f=>by
 obtain ⟨a,⟨k,_⟩⟩:=d
 obtain ⟨b,_⟩:=e
 obtain ⟨c,rfl⟩:=Prod.mk.inj f
 exact xar mxTryz (inv0Ok Tryz.prog _) rfl xA6 xvY (xf1 a) (xeC a) (fun p=>by simp only [xeC,LR.eval];first|(simp;done)|(repeat' split<;>simp)) (xCd a) (s:=(k,b)) (xab c)
def xjt:Env:=EKV.fn 61 1 (lsOf []) (lpsOf [(9,xnb),(4,xsp)])
theorem xA7:OrcOk Tryz.prog (ITryz.at 1) xjt:=xHf.fn
theorem xyT:LoOk Tryz.prog (ITryz.at xjt.pin) xjt (Tryz.f55.body.getD .skip):=xaM (ls:=[loopAt Tryz.f55 0,loopAt Tryz.f55 1]) (by kernel_rfl) (lkC xz7 (lkC xri lkN))
def xpU (n:Nat) (a:LA):=(Iter (xax n) (1,a)).getD (false,(0,[]),[])
def xpT (n:Nat) (a:LA):=(xpU n a).snd
def xpS (n:Nat) (a:LA):=(xpT n a).fst
def xnc {T:Type} (n:Nat) (a:LA) (δ:T) (κ:Nat×LA→T):T:=br (decide ((↑n:Int)<2)) (κ (n,a)) (br ((Iter (xax n) (1,a)).isSome) (br ((xpU n a).fst) (κ ((xpS n a).fst,(xpS n a).snd)) (κ (n,(xpT n a).snd))) δ)
def xgE (n:Nat) (a:LA):Option (Nat×LA):=xnc n a none some
theorem xGR (n:Nat) (xs:LA):Enc (fun (p:Nat×LA)=>(((AV.osl 0 0 0 p.1,([⟨0,1,3,p.2,false,true⟩]:List Box))):(AV×List Box))) (xgE n xs) (XFM Tryz.prog xjt Tryz.f55 (Tryz.f55.body.getD .skip) [AV.osl (0:Id) 0 0 n] [{ ver:=0,sz:=1,ty:=(3:TypeId),xs:=xs,frz:=false,pm:=true }]):=by
 refine eV (xnc n xs none (fun (p:Nat×LA)=>some (((AV.osl 0 0 0 p.1,([⟨0,1,3,p.2,false,true⟩]:List Box))):(AV×List Box)))) (by kernel_rfl) ?_;unfold xgE xnc;repeat' first|exact eN|exact eS rfl|apply eB
def xvZ:LA→List Box→Option (Bool×AV×List Box):=omOf (sCons (sEq (pOsl 0 0 0)) sNil) (pCons (pBox 0 1 (3:TypeId) false true pAny) pNil) fun (n,_) (a,_)=>((xgE n a).isSome,((AV.osl 0 0 0 ((xgE n a).getD (0,[])).1,([⟨0,1,3,((xgE n a).getD (0,[])).2,false,true⟩]:List Box))))
theorem xGQ:OmOk Tryz.prog ITryz 55 (xvZ):=xfA fun c e h g f=>by
 obtain ⟨n,_⟩:=c
 obtain ⟨i,_⟩:=e
 obtain ⟨a,b⟩:=Prod.mk.inj f
 refine xdr (p:=xjt.pin) (xdI mxTryz (inv0Ok Tryz.prog _) rfl xA7 rfl Tryz.func55 rfl (by kernel_rfl) xyT ((xGR _ _ _ (xab (d:=(0,[])) a)).trans ?_))
 exact congrArg some b
def xLL:Env:=EKV.withM 55 xvZ
theorem xF8:OrcOk Tryz.prog ITryz xLL:=xHf.withM xGQ
def xgp:Env:=xLL.fn 37 0 (lsOf []) (lpsOf [])
theorem xzi:OrcOk Tryz.prog (ITryz.at 0) xgp:=xF8.fn
theorem xu2:LoOk Tryz.prog (ITryz.at xgp.pin) xgp (loopAt Tryz.f21 0):=xaq (by kernel_rfl)
def xiy (b:LA) (c:Int) (a:LA):=a++[AV.int .i64 ((b.getD c.toNat .top).cells.getD 1 .top).toInt]
def xgK {T:Type} (d:LA) (e:Int) (a:Nat) (c:Int) (b:LA) (δ:T) (κl:(Nat×Int×LA)→T) (κr:(Nat×LA)→T):T:=br (decide (c<e)) (br (decide (0≤c)&&decide (c<d.length)) (br (decide (c.toNat<d.length)&&((d.getD c.toNat .top).cells.length==3&&hasShs [Sh.list 3,Sh.int .i64,Sh.int .i64] (d.getD c.toNat .top).cells 0)) (br (xgd ((d.getD c.toNat .top).cells.getD 1 .top).toInt ((d.getD c.toNat .top).cells.getD 2 .top).toInt) (br (a==b.length&&(decide ((a+1)*8≤140737488355328)&&decide (a+1≤4611686018427387904))) (br (decide (((d.getD c.toNat .top).cells.getD 2 .top).toInt<1099511627776)) (br (a+1==(xiy d c b).length&&(decide ((a+1+1)*8≤140737488355328)&&decide (a+1+1≤4611686018427387904))) (κl (a+1+1,i64.wrap (c+1),xiy d c b++[AV.int .i64 ((d.getD c.toNat .top).cells.getD 2 .top).toInt])) δ) (κl (a+1,i64.wrap (c+1),xiy d c b))) δ) (κl (a,i64.wrap (c+1),b))) δ) δ) (κr (a,b))
def xbl (c:LA) (d:Int):(Nat×Int×LA)→Option ((Nat×Int×LA)⊕(Nat×LA)):=fun (b,e,a)=>xgK c d b e a none (fun s=>some (.inl s)) (fun p=>some (.inr p))
def xeX (c:LA) (d:Int):(Nat×Int×LA)→LA×List Box:=fun (b,e,a)=>([AV.osl 0 0 0 b,AV.list 3 c,AV.int .i64 d,AV.int .i64 e],[⟨0,1,3,a,false,true⟩])
def xd8 (a:LA) (b:Int):(Nat×LA)→LR:=fun p=>(.leaf (.exit 0) [AV.osl 0 0 0 p.1] [⟨0,1,3,p.2,false,true⟩])
abbrev xAq (a:LA) (H:List Box):=XR Tryz.prog xgp [3,7,8,9] [3] [(3,1,3)] (loopAt Tryz.f21 0) a H
theorem xAr (a:LA) (b:Int) (s:Nat×Int×LA):Enc (encR (xeX a b) (xd8 a b)) (xbl a b s) (xAq (xeX a b s).1 (xeX a b s).2):=by
 obtain ⟨d,e,c⟩:=s
 refine eV (xgK a b d e c none (fun s=>some (encR (xeX a b) (xd8 a b) (.inl s))) (fun p=>some (encR (xeX a b) (xd8 a b) (.inr p)))) (by kernel_rfl) ?_;unfold xbl xgK;repeat' first|exact eN|exact eS rfl|apply eB
def xra:Lp:=lpOf [3,7,8,9] [3] [(3,1,3)] (pCons (pOsl 0 0 0) (pCons (pList 3 pAny) (pCons (pInt .i64) (pCons (pInt .i64) pNil)))) (pCons (pBox 0 1 3 false true pAny) pNil) fun (b,(c,(d,(e,_)))) (a,_)=>((Iter (xbl c d) (b,e,a)).isSome,xd8 c d ((Iter (xbl c d) (b,e,a)).getD (0,[])))
theorem xyd:LoopOk Tryz.prog (ITryz.at xgp.pin) xgp.nt (loopAt Tryz.f21 0) xra:=xaP fun f g j h=>by
 obtain ⟨b,⟨c,⟨d,⟨i,_⟩⟩⟩⟩:=f
 obtain ⟨a,_⟩:=g
 obtain ⟨e,rfl⟩:=Prod.mk.inj h
 exact xar mxTryz (inv0Ok Tryz.prog _) rfl xzi xu2 (xeX c d) (xd8 c d) (fun p=>by simp only [xd8,LR.eval];first|(simp;done)|(repeat' split<;>simp)) (xAr c d) (s:=(b,i,a)) (xab e)
def xii:Env:=xLL.fn 37 0 (lsOf []) (lpsOf [(3,xra)])
theorem xzj:OrcOk Tryz.prog (ITryz.at 0) xii:=xF8.fn
theorem xwe:LoOk Tryz.prog (ITryz.at xii.pin) xii (Tryz.f21.body.getD .skip):=xaM (ls:=[loopAt Tryz.f21 0]) (by kernel_rfl) (lkC xyd lkN)
def xob (l:LA):=Iter (xbl l (↑l.length:Int)) (1,0,[AV.int .i64 0])
def xoa (l:LA):=(xob l).getD (0,[])
def xkS (l:LA):=(xoa l).snd
def xkT (l:LA):=(xoa l).fst
def xn9 (l:LA):=xgE (xkT l) (srtI (xkS l))
def xn8 (l:LA):=(xn9 l).getD (0,[])
def xn6 (l:LA):=(xn8 l).snd
def xn7 (l:LA):=(xn8 l).fst
def xl3 {T:Type} (l:LA) (δ:T) (κ:LA→T):T:=br ((xob l).isSome) (br ((xkT l).beq (xkS l).length&&(decide (xkT l<4611686018427387904)&&(xkS l).all isI)) (br ((xn9 l).isSome) (br (decide (0+xn7 l≤(xn6 l).length)&&true) (κ (List.take (xn7 l) (List.drop 0 (xn6 l)))) δ) δ) δ) δ
def xeg (l:LA):Option (LA):=xl3 l none some
theorem xEv (l:LA):Enc (fun (p:LA)=>((AV.list 1 p):AV)) (xeg l) (XF Tryz.prog xii Tryz.f21 (Tryz.f21.body.getD .skip) [AV.list 3 l]):=by
 refine eV (xl3 l none (fun (p:LA)=>some ((AV.list 1 p):AV))) (by kernel_rfl) ?_;unfold xeg xl3;repeat' first|exact eN|exact eS rfl|apply eB
def xuU:LA→Option (Bool×AV):=ocOf (sCons (sList 3 pAny) sNil) fun (l,_)=>((xeg l).isSome,(AV.list 1 ((xeg l).getD [])))
theorem xEu:OcOk Tryz.prog ITryz 21 (xuU):=xaL fun c f e=>by
 obtain ⟨l,_⟩:=c
 obtain ⟨a,b⟩:=Prod.mk.inj e
 refine xaI (p:=xii.pin) (xaK mxTryz (inv0Ok Tryz.prog _) rfl xzj Tryz.func21 rfl (by kernel_rfl) xwe ((xEv _ _ (xab (d:=[]) a)).trans ?_))
 exact congrArg some b
def xTj:Env:=xLL.with 21 xuU
theorem xSc:OrcOk Tryz.prog ITryz xTj:=xF8.with xEu
abbrev xTk:Env:=xTj
theorem xSd:OrcOk Tryz.prog ITryz xTk:=xSc
abbrev xTl:Env:=xTk
theorem xSe:OrcOk Tryz.prog ITryz xTl:=xSd
abbrev xLM:Env:=xTl
theorem xF9:OrcOk Tryz.prog ITryz xLM:=xSe
def xiY:Env:=xLM.fn 26 0 (lsOf []) (lpsOf [])
theorem xDY:OrcOk Tryz.prog (ITryz.at 0) xiY:=xF9.fn
theorem xyW:LoOk Tryz.prog (ITryz.at xiY.pin) xiY (loopAt Tryz.f81 0):=xaq (by kernel_rfl)
def xju {T:Type} (b c:LA) (d a:Int) (δ:T) (κl:(Int)→T) (κr:(Bool×(Bool)×(Unit))→T):T:=br (decide (a<d)) (br (decide (0≤a)&&decide (a<b.length)) (br (decide (a.toNat<b.length)&&((b.getD a.toNat .top).cells.length==3&&hasShs [Sh.int .i64,Sh.int .i64,Sh.str] (b.getD a.toNat .top).cells 0)) (br (decide (0≤a)&&decide (a<c.length)) (br (decide (a.toNat<c.length)&&((c.getD a.toNat .top).cells.length==3&&hasShs [Sh.int .i64,Sh.int .i64,Sh.str] (c.getD a.toNat .top).cells 0)) (br (!(((b.getD a.toNat .top).cells.getD 0 .top).toInt==((c.getD a.toNat .top).cells.getD 0 .top).toInt&&(((b.getD a.toNat .top).cells.getD 1 .top).toInt==((c.getD a.toNat .top).cells.getD 1 .top).toInt&&(((b.getD a.toNat .top).cells.getD 2 .top).toStr==((c.getD a.toNat .top).cells.getD 2 .top).toStr&&true)))) (κr (true,(false),())) (κl (i64.wrap (a+1)))) δ) δ) δ) δ) (κr (false,false,()))
def xbY (c d:LA) (a:Int):(Int)→Option ((Int)⊕(Bool×(Bool)×(Unit))):=fun (b)=>xju c d a b none (fun s=>some (.inl s)) (fun p=>some (.inr p))
def xht (c d:LA) (a:Int):(Int)→LA×List Box:=fun (b)=>([AV.list 3 c,AV.list 3 d,AV.int .i64 a,AV.int .i64 b],[])
def xf6 (b c:LA) (a:Int):(Bool×(Bool)×(Unit))→LR:=fun p=>(.node p.1 (.leaf .ret [AV.bool p.2.1] []) (.leaf (.exit 0) [.top] []))
abbrev xFh (a:LA) (H:List Box):=XR Tryz.prog xiY [0,1,12,13] [4] [] (loopAt Tryz.f81 0) a H
theorem xFi (b c:LA) (a d:Int):Enc (encR (xht b c a) (xf6 b c a)) (xbY b c a d) (xFh (xht b c a d).1 (xht b c a d).2):=by
 refine eV (xju b c a d none (fun s=>some (encR (xht b c a) (xf6 b c a) (.inl s))) (fun p=>some (encR (xht b c a) (xf6 b c a) (.inr p)))) (by kernel_rfl) ?_;unfold xbY xju;repeat' first|exact eN|exact eS rfl|apply eB
def xue:Lp:=lpOf [0,1,12,13] [4] [] (pCons (pList 3 pAny) (pCons (pList 3 pAny) (pCons (pInt .i64) (pCons (pInt .i64) pNil)))) pNil fun (c,(d,(a,(b,_)))) _=>((Iter (xbY c d a) (b)).isSome,xf6 c d a ((Iter (xbY c d a) (b)).getD (false,false,())))
theorem xCg:LoopOk Tryz.prog (ITryz.at xiY.pin) xiY.nt (loopAt Tryz.f81 0) xue:=xaP fun f h i g=>by
 obtain ⟨b,⟨c,⟨a,⟨d,_⟩⟩⟩⟩:=f
 obtain ⟨e,rfl⟩:=Prod.mk.inj g
 exact xar mxTryz (inv0Ok Tryz.prog _) rfl xDY xyW (xht b c a) (xf6 b c a) (fun p=>by simp only [xf6,LR.eval];first|(simp;done)|(repeat' split<;>simp)) (xFi b c a) (s:=(d)) (xab e)
def xlq:Env:=xLM.fn 26 0 (lsOf []) (lpsOf [(4,xue)])
theorem xDZ:OrcOk Tryz.prog (ITryz.at 0) xlq:=xF9.fn
theorem xBa:LoOk Tryz.prog (ITryz.at xlq.pin) xlq (Tryz.f81.body.getD .skip):=xaM (ls:=[loopAt Tryz.f81 0]) (by kernel_rfl) (lkC xCg lkN)
def xpw {T:Type} (a b:LA) (δ:T) (κ:Bool→T):T:=br ((↑a.length:Int) != (↑b.length:Int)) (κ (false)) (br ((Iter (xbY a b (↑a.length:Int)) 0).isSome) (br (((Iter (xbY a b (↑a.length:Int)) 0).getD (false,false,())).fst) (κ (((Iter (xbY a b (↑a.length:Int)) 0).getD (false,false,())).snd.fst)) (κ (true))) δ)
def xio (a b:LA):Option (Bool):=xpw a b none some
theorem xJU (a b:LA):Enc (fun (p:Bool)=>((AV.bool p):AV)) (xio a b) (XF Tryz.prog xlq Tryz.f81 (Tryz.f81.body.getD .skip) [AV.list 3 a,AV.list 3 b]):=by
 refine eV (xpw a b none (fun (p:Bool)=>some ((AV.bool p):AV))) (by kernel_rfl) ?_;unfold xio xpw;repeat' first|exact eN|exact eS rfl|apply eB
def xAa:LA→Option (Bool×AV):=ocOf (sCons (sList 3 pAny) (sCons (sList 3 pAny) sNil)) fun (a,(b,_))=>((xio a b).isSome,(AV.bool ((xio a b).getD false)))
theorem xJT:OcOk Tryz.prog ITryz 81 (xAa):=xaL fun c f e=>by
 obtain ⟨g,⟨h,_⟩⟩:=c
 obtain ⟨a,b⟩:=Prod.mk.inj e
 refine xaI (p:=xlq.pin) (xaK mxTryz (inv0Ok Tryz.prog _) rfl xDZ Tryz.func81 rfl (by kernel_rfl) xBa ((xJU _ _ _ (xab (d:=false) a)).trans ?_))
 exact congrArg some b
def xPh:Env:=xLM.with 81 xAa
theorem xL6:OrcOk Tryz.prog ITryz xPh:=xF9.with xJT
def xga:Env:=xPh.fn 17 0 (lsOf []) (lpsOf [])
theorem xu3:OrcOk Tryz.prog (ITryz.at 0) xga:=xL6.fn
theorem xtT:LoOk Tryz.prog (ITryz.at xga.pin) xga (Tryz.f80.body.getD .skip):=xaq (by kernel_rfl)
def xiz {T:Type} (a:LA) (c d:Int) (b:LA) (e f:Int) (δ:T) (κ:Bool→T):T:=br (c==e&&(d==f&&true)) (br ((xio a b).isSome) (κ ((xio a b).getD false)) δ) (κ (false))
def xee (a:LA) (b c:Int) (d:LA) (e f:Int):Option (Bool):=xiz a b c d e f none some
theorem xzw (a:LA) (b c:Int) (d:LA) (e f:Int):Enc (fun (p:Bool)=>((AV.bool p):AV)) (xee a b c d e f) (XF Tryz.prog xga Tryz.f80 (Tryz.f80.body.getD .skip) [AV.agg [AV.list 3 a,AV.int .i64 b,AV.int .i64 c],AV.agg [AV.list 3 d,AV.int .i64 e,AV.int .i64 f]]):=by
 refine eV (xiz a b c d e f none (fun (p:Bool)=>some ((AV.bool p):AV))) (by kernel_rfl) ?_;unfold xee xiz;repeat' first|exact eN|exact eS rfl|apply eB
def xrb:LA→Option (Bool×AV):=ocOf (sCons (sAgg (sCons (sList 3 pAny) (sCons (sEq (pInt .i64)) (sCons (sEq (pInt .i64)) sNil)))) (sCons (sAgg (sCons (sList 3 pAny) (sCons (sEq (pInt .i64)) (sCons (sEq (pInt .i64)) sNil)))) sNil)) fun ((a,(b,(c,_))),((d,(e,(f,_))),_))=>((xee a b c d e f).isSome,(AV.bool ((xee a b c d e f).getD false)))
theorem xzv:OcOk Tryz.prog ITryz 80 (xrb):=xaL fun c l e=>by
 obtain ⟨⟨f,⟨g,⟨h,_⟩⟩⟩,⟨⟨i,⟨j,⟨k,_⟩⟩⟩,_⟩⟩:=c
 obtain ⟨a,b⟩:=Prod.mk.inj e
 refine xaI (p:=xga.pin) (xaK mxTryz (inv0Ok Tryz.prog _) rfl xu3 Tryz.func80 rfl (by kernel_rfl) xtT ((xzw _ _ _ _ _ _ _ (xab (d:=false) a)).trans ?_))
 exact congrArg some b
def xLN:Env:=xPh.with 80 xrb
theorem xGa:OrcOk Tryz.prog ITryz xLN:=xL6.with xzv
def xf5:Env:=xLN.fn 32 0 (lsOf []) (lpsOf [])
theorem xyU:OrcOk Tryz.prog (ITryz.at 0) xf5:=xGa.fn
theorem xuN:LoOk Tryz.prog (ITryz.at xf5.pin) xf5 (loopAt Tryz.f79 0):=xaq (by kernel_rfl)
def xig (c b:LA) (a:Int):=xee ((b.getD a.toNat .top).cells.getD 0 .top).toList ((b.getD a.toNat .top).cells.getD 1 .top).toInt ((b.getD a.toNat .top).cells.getD 2 .top).toInt ((c.getD a.toNat .top).cells.getD 0 .top).toList ((c.getD a.toNat .top).cells.getD 1 .top).toInt ((c.getD a.toNat .top).cells.getD 2 .top).toInt
def xgG {T:Type} (c b:LA) (d a:Int) (δ:T) (κl:(Int)→T) (κr:(Bool×(Bool)×(Unit))→T):T:=br (decide (a<d)) (br (decide (0≤a)&&decide (a<b.length)) (br (decide (a.toNat<b.length)&&((b.getD a.toNat .top).cells.length==3&&hasShs [Sh.list 3,Sh.int .i64,Sh.int .i64] (b.getD a.toNat .top).cells 0)) (br (decide (0≤a)&&decide (a<c.length)) (br (decide (a.toNat<c.length)&&((c.getD a.toNat .top).cells.length==3&&hasShs [Sh.list 3,Sh.int .i64,Sh.int .i64] (c.getD a.toNat .top).cells 0)) (br ((xig c b a).isSome) (br (!(xig c b a).getD false) (κr (true,(false),())) (κl (i64.wrap (a+1)))) δ) δ) δ) δ) δ) (κr (false,false,()))
def xbd (d a:LA) (b:Int):(Int)→Option ((Int)⊕(Bool×(Bool)×(Unit))):=fun (c)=>xgG d a b c none (fun s=>some (.inl s)) (fun p=>some (.inr p))
def xeF (d a:LA) (b:Int):(Int)→LA×List Box:=fun (c)=>([AV.list 3 d,AV.func 80 [],AV.list 3 a,AV.int .i64 b,AV.int .i64 c],[])
def xdR (c a:LA) (b:Int):(Bool×(Bool)×(Unit))→LR:=fun p=>(.node p.1 (.leaf .ret [AV.bool p.2.1] []) (.leaf (.exit 0) [.top] []))
abbrev xz8 (a:LA) (H:List Box):=XR Tryz.prog xf5 [1,2,15,16,17] [6] [] (loopAt Tryz.f79 0) a H
theorem xz9 (c a:LA) (b d:Int):Enc (encR (xeF c a b) (xdR c a b)) (xbd c a b d) (xz8 (xeF c a b d).1 (xeF c a b d).2):=by
 refine eV (xgG c a b d none (fun s=>some (encR (xeF c a b) (xdR c a b) (.inl s))) (fun p=>some (encR (xeF c a b) (xdR c a b) (.inr p)))) (by kernel_rfl) ?_;unfold xbd xgG;repeat' first|exact eN|exact eS rfl|apply eB
def xqe:Lp:=lpOf [1,2,15,16,17] [6] [] (pCons (pList 3 pAny) (pCons (pFunc 80 pNil) (pCons (pList 3 pAny) (pCons (pInt .i64) (pCons (pInt .i64) pNil))))) pNil fun (d,(_,(a,(b,(c,_))))) _=>((Iter (xbd d a b) (c)).isSome,xdR d a b ((Iter (xbd d a b) (c)).getD (false,false,())))
theorem xws:LoopOk Tryz.prog (ITryz.at xf5.pin) xf5.nt (loopAt Tryz.f79 0) xqe:=xaP fun f h i g=>by
 obtain ⟨c,⟨_,⟨a,⟨b,⟨d,_⟩⟩⟩⟩⟩:=f
 obtain ⟨e,rfl⟩:=Prod.mk.inj g
 exact xar mxTryz (inv0Ok Tryz.prog _) rfl xyU xuN (xeF c a b) (xdR c a b) (fun p=>by simp only [xdR,LR.eval];first|(simp;done)|(repeat' split<;>simp)) (xz9 c a b) (s:=(d)) (xab e)
def xhR:Env:=xLN.fn 32 0 (lsOf []) (lpsOf [(4,xqe)])
theorem xyV:OrcOk Tryz.prog (ITryz.at 0) xhR:=xGa.fn
theorem xv1:LoOk Tryz.prog (ITryz.at xhR.pin) xhR (Tryz.f79.body.getD .skip):=xaM (ls:=[loopAt Tryz.f79 0]) (by kernel_rfl) (lkC xws lkN)
def xlp {T:Type} (a b:LA) (δ:T) (κ:Bool→T):T:=br ((↑a.length:Int) != (↑b.length:Int)) (κ (false)) (br ((Iter (xbd b a (↑a.length:Int)) 0).isSome) (br (((Iter (xbd b a (↑a.length:Int)) 0).getD (false,false,())).fst) (κ (((Iter (xbd b a (↑a.length:Int)) 0).getD (false,false,())).snd.fst)) (κ (true))) δ)
def xgl (a b:LA):Option (Bool):=xlp a b none some
theorem xDX (a b:LA):Enc (fun (p:Bool)=>((AV.bool p):AV)) (xgl a b) (XF Tryz.prog xhR Tryz.f79 (Tryz.f79.body.getD .skip) [AV.list 3 a,AV.list 3 b,AV.func (80:FuncId) []]):=by
 refine eV (xlp a b none (fun (p:Bool)=>some ((AV.bool p):AV))) (by kernel_rfl) ?_;unfold xgl xlp;repeat' first|exact eN|exact eS rfl|apply eB
def xud:LA→Option (Bool×AV):=ocOf (sCons (sList 3 pAny) (sCons (sList 3 pAny) (sCons (sEq (pFunc (80:FuncId) pNil)) sNil))) fun (a,(b,(_,_)))=>((xgl a b).isSome,(AV.bool ((xgl a b).getD false)))
theorem xDW:OcOk Tryz.prog ITryz 79 (xud):=xaL fun f h g=>by
 obtain ⟨a,⟨b,⟨_,_⟩⟩⟩:=f
 obtain ⟨c,e⟩:=Prod.mk.inj g
 refine xaI (p:=xhR.pin) (xaK mxTryz (inv0Ok Tryz.prog _) rfl xyV Tryz.func79 rfl (by kernel_rfl) xv1 ((xDX _ _ _ (xab (d:=false) c)).trans ?_))
 exact congrArg some e
def xPi:Env:=xLN.with 79 xud
theorem xL7:OrcOk Tryz.prog ITryz xPi:=xGa.with xDW
def xgu:Env:=xPi.fn 8 0 (lsOf []) (lpsOf [])
theorem xvy:OrcOk Tryz.prog (ITryz.at 0) xgu:=xL7.fn
theorem xuE:LoOk Tryz.prog (ITryz.at xgu.pin) xgu (Tryz.f51.body.getD .skip):=xaq (by kernel_rfl)
def xjy {T:Type} (a b:LA) (δ:T) (κ:Bool→T):T:=br ((xgl a b).isSome) (κ ((xgl a b).getD false)) δ
def xdH (a b:LA):Option (Bool):=xjy a b none some
theorem xAu (a b:LA):Enc (fun (p:Bool)=>((AV.bool p):AV)) (xdH a b) (XF Tryz.prog xgu Tryz.f51 (Tryz.f51.body.getD .skip) [AV.list 3 a,AV.list 3 b]):=by
 refine eV (xjy a b none (fun (p:Bool)=>some ((AV.bool p):AV))) (by kernel_rfl) ?_;unfold xdH xjy;repeat' first|exact eN|exact eS rfl|apply eB
def xrF:LA→Option (Bool×AV):=ocOf (sCons (sList 3 pAny) (sCons (sList 3 pAny) sNil)) fun (a,(b,_))=>((xdH a b).isSome,(AV.bool ((xdH a b).getD false)))
theorem xAt:OcOk Tryz.prog ITryz 51 (xrF):=xaL fun f h g=>by
 obtain ⟨a,⟨b,_⟩⟩:=f
 obtain ⟨c,e⟩:=Prod.mk.inj g
 refine xaI (p:=xgu.pin) (xaK mxTryz (inv0Ok Tryz.prog _) rfl xvy Tryz.func51 rfl (by kernel_rfl) xuE ((xAu _ _ _ (xab (d:=false) c)).trans ?_))
 exact congrArg some e
def xPj:Env:=xPi.with 51 xrF
theorem xL8:OrcOk Tryz.prog ITryz xPj:=xL7.with xAt
def xgo:Env:=xPj.fn 7 0 (lsOf []) (lpsOf [])
theorem xvs:OrcOk Tryz.prog (ITryz.at 0) xgo:=xL8.fn
theorem xuy:LoOk Tryz.prog (ITryz.at xgo.pin) xgo (Tryz.f18.body.getD .skip):=xaq (by kernel_rfl)
def xjw {T:Type} (l:LA) (δ:T) (κ:Bool→T):T:=br ((xdy l).isSome) (br ((xdH l ((xdy l).getD [])).isSome) (κ ((xdH l ((xdy l).getD [])).getD false)) δ) δ
def xdG (l:LA):Option (Bool):=xjw l none some
theorem xAp (l:LA):Enc (fun (p:Bool)=>((AV.bool p):AV)) (xdG l) (XF Tryz.prog xgo Tryz.f18 (Tryz.f18.body.getD .skip) [AV.list 3 l]):=by
 refine eV (xjw l none (fun (p:Bool)=>some ((AV.bool p):AV))) (by kernel_rfl) ?_;unfold xdG xjw;repeat' first|exact eN|exact eS rfl|apply eB
def xrE:LA→Option (Bool×AV):=ocOf (sCons (sList 3 pAny) sNil) fun (l,_)=>((xdG l).isSome,(AV.bool ((xdG l).getD false)))
theorem xAo:OcOk Tryz.prog ITryz 18 (xrE):=xaL fun c f e=>by
 obtain ⟨l,_⟩:=c
 obtain ⟨a,b⟩:=Prod.mk.inj e
 refine xaI (p:=xgo.pin) (xaK mxTryz (inv0Ok Tryz.prog _) rfl xvs Tryz.func18 rfl (by kernel_rfl) xuy ((xAp _ _ (xab (d:=false) a)).trans ?_))
 exact congrArg some b
def xQw:Env:=xPj.with 18 xrE
theorem xQy:OrcOk Tryz.prog ITryz xQw:=xL8.with xAo
abbrev xQz:Env:=xQw
theorem xQA:OrcOk Tryz.prog ITryz xQz:=xQy
abbrev xQB:Env:=xQz
theorem xQC:OrcOk Tryz.prog ITryz xQB:=xQA
abbrev xQD:Env:=xQB
theorem xQE:OrcOk Tryz.prog ITryz xQD:=xQC
abbrev xQF:Env:=xQD
theorem xQG:OrcOk Tryz.prog ITryz xQF:=xQE
abbrev EKQ:Env:=xQF
theorem xQH:OrcOk Tryz.prog ITryz EKQ:=xQG
end Go.Sim.M
end
noncomputable section
set_option maxRecDepth 100000
namespace Go.Sim.M
open Go.IntKind (i64 u64 u8)
open Go.RowKit Go.Proofs
def xkF:Env:=EKQ.fn 7 0 (lsOf []) (lpsOf [])
theorem xGE:OrcOk Tryz.prog (ITryz.at 0) xkF:=xQH.fn
theorem xDr:LoOk Tryz.prog (ITryz.at xkF.pin) xkF (Tryz.f89.body.getD .skip):=xaq (by kernel_rfl)
def xif (b a:Bool):Int:=(br (b) (((-1))) (br (a) ((1)) ((0))))
def xzR (b a:Bool):Bool:=true
def xDt {T:Type} (b a:Bool) (δ:T) (κ:Int→T):T:=br (b) (κ ((-1))) (br (a) (κ (1)) (κ (0)))
theorem xM9 (b a:Bool):Pre (xzR b a) (XF Tryz.prog xkF Tryz.f89 (Tryz.f89.body.getD .skip) [AV.bool b,AV.bool a]) (AV.int .i64 (xif b a)):=by
 have h:XF Tryz.prog xkF Tryz.f89 (Tryz.f89.body.getD .skip) [AV.bool b,AV.bool a]=xDt b a none (fun (p:Int)=>some ((AV.int .i64 p):AV)):=by kernel_rfl
 rw [h];unfold xif xzR xDt;repeat' (first|exact Pre.none|exact Pre.tt rfl|exact Pre.some rfl|refine Pre.l ?_|refine Pre.r ?_|refine Pre.br (f:=fun (p:Int)=>((AV.int .i64 p):AV)) ?_ ?_|refine Pre.brt (f:=fun (p:Int)=>((AV.int .i64 p):AV)) ?_ ?_)
def xDs:LA→Option (Bool×AV):=ocOf (sCons (sEq pBool) (sCons (sEq pBool) sNil)) fun (b,(a,_))=>(true,(AV.int .i64 (xif b a)))
theorem xM8:OcOk Tryz.prog ITryz 89 (xDs):=xaL fun c g d=>by
 obtain ⟨e,⟨a,_⟩⟩:=c
 obtain ⟨f,b⟩:=Prod.mk.inj d
 refine xaI (p:=xkF.pin) (xaK mxTryz (inv0Ok Tryz.prog _) rfl xGE Tryz.func89 rfl (by kernel_rfl) xDr ((Pre.get (xM9 _ _) rfl).trans ?_))
 exact congrArg some b
def xL9:Env:=EKQ.with 89 xDs
theorem xKi:OrcOk Tryz.prog ITryz xL9:=xQH.with xM8
def xh5:Env:=xL9.fn 48 0 (lsOf []) (lpsOf [])
theorem xBU:OrcOk Tryz.prog (ITryz.at 0) xh5:=xKi.fn
theorem xzP:LoOk Tryz.prog (ITryz.at xh5.pin) xh5 (Tryz.f64.body.getD .skip):=xaq (by kernel_rfl)
def xhC (a b:Int) (c:List UInt8) (d e:Int) (f:List UInt8):Int:=(br (a != d) ((xif (decide (a<d)) (decide (a>d)))) (br (b != e) ((xif (decide (b<e)) (decide (b>e)))) ((xif (Op.bytesLess c f) !(Op.bytesLess c f || c==f)))))
def xuY (a b:Int) (c:List UInt8) (d e:Int) (f:List UInt8):Bool:=true
def xwR {T:Type} (a b:Int) (c:List UInt8) (d e:Int) (f:List UInt8) (δ:T) (κ:Int→T):T:=br (a != d) (κ (xif (decide (a<d)) (decide (a>d)))) (br (b != e) (κ (xif (decide (b<e)) (decide (b>e)))) (κ (xif (Op.bytesLess c f) !(Op.bytesLess c f || c==f))))
theorem xH5 (a b:Int) (c:List UInt8) (d e:Int) (g:List UInt8):Pre (xuY a b c d e g) (XF Tryz.prog xh5 Tryz.f64 (Tryz.f64.body.getD .skip) [AV.agg [AV.int .i64 a,AV.int .i64 b,AV.str c],AV.agg [AV.int .i64 d,AV.int .i64 e,AV.str g]]) (AV.int .i64 (xhC a b c d e g)):=by
 have h:XF Tryz.prog xh5 Tryz.f64 (Tryz.f64.body.getD .skip) [AV.agg [AV.int .i64 a,AV.int .i64 b,AV.str c],AV.agg [AV.int .i64 d,AV.int .i64 e,AV.str g]]=xwR a b c d e g none (fun (p:Int)=>some ((AV.int .i64 p):AV)):=by kernel_rfl
 rw [h];unfold xhC xuY xwR;repeat' (first|exact Pre.none|exact Pre.tt rfl|exact Pre.some rfl|refine Pre.l ?_|refine Pre.r ?_|refine Pre.br (f:=fun (p:Int)=>((AV.int .i64 p):AV)) ?_ ?_|refine Pre.brt (f:=fun (p:Int)=>((AV.int .i64 p):AV)) ?_ ?_)
def xwQ:LA→Option (Bool×AV):=ocOf (sCons (sAgg (sCons (sEq (pInt .i64)) (sCons (sEq (pInt .i64)) (sCons (sEq pStr) sNil)))) (sCons (sAgg (sCons (sEq (pInt .i64)) (sCons (sEq (pInt .i64)) (sCons (sEq pStr) sNil)))) sNil)) fun ((a,(b,(c,_))),((d,(e,(f,_))),_))=>(true,(AV.int .i64 (xhC a b c d e f)))
theorem xH4:OcOk Tryz.prog ITryz 64 (xwQ):=xaL fun b k c=>by
 obtain ⟨⟨d,⟨e,⟨f,_⟩⟩⟩,⟨⟨g,⟨h,⟨i,_⟩⟩⟩,_⟩⟩:=b
 obtain ⟨j,a⟩:=Prod.mk.inj c
 refine xaI (p:=xh5.pin) (xaK mxTryz (inv0Ok Tryz.prog _) rfl xBU Tryz.func64 rfl (by kernel_rfl) xzP ((Pre.get (xH5 _ _ _ _ _ _) rfl).trans ?_))
 exact congrArg some a
def xG5:Env:=xL9.with 64 xwQ
theorem xCo:OrcOk Tryz.prog ITryz xG5:=xKi.with xH4
def xh6:Env:=xG5.fn 41 0 (lsOf []) (lpsOf [])
theorem xBW:OrcOk Tryz.prog (ITryz.at 0) xh6:=xCo.fn
theorem xwk:LoOk Tryz.prog (ITryz.at xh6.pin) xh6 (loopAt Tryz.f30 0):=xaq (by kernel_rfl)
def xfQ (a b:LA) (i:Int):=xhC ((a.getD i.toNat .top).cells.getD 0 .top).toInt ((a.getD i.toNat .top).cells.getD 1 .top).toInt ((a.getD i.toNat .top).cells.getD 2 .top).toStr ((b.getD i.toNat .top).cells.getD 0 .top).toInt ((b.getD i.toNat .top).cells.getD 1 .top).toInt ((b.getD i.toNat .top).cells.getD 2 .top).toStr
def xeR {T:Type} (a b:LA) (i:Int) (δ:T) (κl:(Int)→T) (κr:(Bool×(Int)×(Unit))→T):T:=br (decide (i<a.length)) (br (decide (i<b.length)) (br (decide (0≤i)&&decide (i<a.length)) (br (decide (i.toNat<a.length)&&((a.getD i.toNat .top).cells.length==3&&hasShs [Sh.int .i64,Sh.int .i64,Sh.str] (a.getD i.toNat .top).cells 0)) (br (decide (0≤i)&&decide (i<b.length)) (br (decide (i.toNat<b.length)&&((b.getD i.toNat .top).cells.length==3&&hasShs [Sh.int .i64,Sh.int .i64,Sh.str] (b.getD i.toNat .top).cells 0)) (br (xfQ a b i != 0) (κr (true,(xfQ a b i),())) (κl (i64.wrap (i+1)))) δ) δ) δ) δ) (κr (false,0,()))) (κr (false,0,()))
def xa8 (a b:LA):(Int)→Option ((Int)⊕(Bool×(Int)×(Unit))):=fun (i)=>xeR a b i none (fun s=>some (.inl s)) (fun p=>some (.inr p))
def xgA (a b:LA):(Int)→LA×List Box:=fun (i)=>([AV.list 3 a,AV.list 3 b,AV.int .i64 i],[])
def xe3 (a b:LA):(Bool×(Int)×(Unit))→LR:=fun p=>(.node p.1 (.leaf .ret [AV.list 3 a,AV.list 3 b,AV.int .i64 p.2.1] []) (.leaf (.exit 0) [AV.list 3 a,AV.list 3 b,.top] []))
abbrev xDu (a:LA) (H:List Box):=XR Tryz.prog xh6 [0,1,5] [0,1,4] [] (loopAt Tryz.f30 0) a H
theorem xDv (a b:LA) (i:Int):Enc (encR (xgA a b) (xe3 a b)) (xa8 a b i) (xDu (xgA a b i).1 (xgA a b i).2):=by
 refine eV (xeR a b i none (fun s=>some (encR (xgA a b) (xe3 a b) (.inl s))) (fun p=>some (encR (xgA a b) (xe3 a b) (.inr p)))) (by kernel_rfl) ?_;unfold xa8 xeR;repeat' first|exact eN|exact eS rfl|apply eB
def xtb:Lp:=lpOf [0,1,5] [0,1,4] [] (pCons (pList 3 pAny) (pCons (pList 3 pAny) (pCons (pInt .i64) pNil))) pNil fun (a,(b,(i,_))) _=>((Iter (xa8 a b) (i)).isSome,xe3 a b ((Iter (xa8 a b) (i)).getD (false,0,())))
theorem xAR:LoopOk Tryz.prog (ITryz.at xh6.pin) xh6.nt (loopAt Tryz.f30 0) xtb:=xaP fun d f g e=>by
 obtain ⟨a,⟨b,⟨i,_⟩⟩⟩:=d
 obtain ⟨c,rfl⟩:=Prod.mk.inj e
 exact xar mxTryz (inv0Ok Tryz.prog _) rfl xBW xwk (xgA a b) (xe3 a b) (fun p=>by simp only [xe3,LR.eval];first|(simp;done)|(repeat' split<;>simp)) (xDv a b) (s:=(i)) (xab c)
def xkb:Env:=xG5.fn 41 0 (lsOf []) (lpsOf [(2,xtb)])
theorem xBX:OrcOk Tryz.prog (ITryz.at 0) xkb:=xCo.fn
theorem xzS:LoOk Tryz.prog (ITryz.at xkb.pin) xkb (Tryz.f30.body.getD .skip):=xaM (ls:=[loopAt Tryz.f30 0]) (by kernel_rfl) (lkC xAR lkN)
def xnX {T:Type} (a b:LA) (δ:T) (κ:Int→T):T:=br ((Iter (xa8 a b) 0).isSome) (br (((Iter (xa8 a b) 0).getD (false,0,())).fst) (κ (((Iter (xa8 a b) 0).getD (false,0,())).snd.fst)) (br (decide ((↑a.length:Int)<(↑b.length:Int))) (κ ((-1))) (br (decide ((↑a.length:Int)>(↑b.length:Int))) (κ (1)) (κ (0))))) δ
def xbh (a b:LA):Option (Int):=xnX a b none some
theorem xH8 (a b:LA):Enc (fun (p:Int)=>((AV.int .i64 p):AV)) (xbh a b) (XF Tryz.prog xkb Tryz.f30 (Tryz.f30.body.getD .skip) [AV.list 3 a,AV.list 3 b]):=by
 refine eV (xnX a b none (fun (p:Int)=>some ((AV.int .i64 p):AV))) (by kernel_rfl) ?_;unfold xbh xnX;repeat' first|exact eN|exact eS rfl|apply eB
def xwS:LA→Option (Bool×AV):=ocOf (sCons (sList 3 pAny) (sCons (sList 3 pAny) sNil)) fun (a,(b,_))=>((xbh a b).isSome,(AV.int .i64 ((xbh a b).getD 0)))
theorem xH7:OcOk Tryz.prog ITryz 30 (xwS):=xaL fun f h g=>by
 obtain ⟨a,⟨b,_⟩⟩:=f
 obtain ⟨c,e⟩:=Prod.mk.inj g
 refine xaI (p:=xkb.pin) (xaK mxTryz (inv0Ok Tryz.prog _) rfl xBX Tryz.func30 rfl (by kernel_rfl) xzS ((xH8 _ _ _ (xab (d:=0) c)).trans ?_))
 exact congrArg some e
def xMa:Env:=xG5.with 30 xwS
theorem xKj:OrcOk Tryz.prog ITryz xMa:=xCo.with xH7
def xmq:Env:=xMa.fn 9 0 (lsOf []) (lpsOf [])
theorem xEQ:OrcOk Tryz.prog (ITryz.at 0) xmq:=xKj.fn
theorem xBx:LoOk Tryz.prog (ITryz.at xmq.pin) xmq (Tryz.f61.body.getD .skip):=xaq (by kernel_rfl)
def xqE {T:Type} (a b:LA) (δ:T) (κ:Bool→T):T:=br ((xbh a b).isSome) (κ ((xbh a b).getD 0==0)) δ
def xlW (a b:LA):Option (Bool):=xqE a b none some
theorem xLr (a b:LA):Enc (fun (p:Bool)=>((AV.bool p):AV)) (xlW a b) (XF Tryz.prog xmq Tryz.f61 (Tryz.f61.body.getD .skip) [AV.list 3 a,AV.list 3 b]):=by
 refine eV (xqE a b none (fun (p:Bool)=>some ((AV.bool p):AV))) (by kernel_rfl) ?_;unfold xlW xqE;repeat' first|exact eN|exact eS rfl|apply eB
def xBw:LA→Option (Bool×AV):=ocOf (sCons (sList 3 pAny) (sCons (sList 3 pAny) sNil)) fun (a,(b,_))=>((xlW a b).isSome,(AV.bool ((xlW a b).getD false)))
theorem xLq:OcOk Tryz.prog ITryz 61 (xBw):=xaL fun f h g=>by
 obtain ⟨a,⟨b,_⟩⟩:=f
 obtain ⟨c,e⟩:=Prod.mk.inj g
 refine xaI (p:=xmq.pin) (xaK mxTryz (inv0Ok Tryz.prog _) rfl xEQ Tryz.func61 rfl (by kernel_rfl) xBx ((xLr _ _ _ (xab (d:=false) c)).trans ?_))
 exact congrArg some e
def xG6:Env:=xMa.with 61 xBw
theorem xCp:OrcOk Tryz.prog ITryz xG6:=xKj.with xLq
def xgC:Env:=xG6.fn 42 0 (lsOf []) (lpsOf [])
theorem xz0:OrcOk Tryz.prog (ITryz.at 0) xgC:=xCp.fn
theorem xvc:LoOk Tryz.prog (ITryz.at xgC.pin) xgC (loopAt Tryz.f13 0):=xaq (by kernel_rfl)
def xgU {T:Type} (a b:LA) (i:Int) (δ:T) (κl:(Int)→T) (κr:(Bool×(Bool)×(Unit))→T):T:=br (decide (i<a.length)) (br (decide (0≤i)&&decide (i<a.length)) (br (decide (i.toNat<a.length)&&((a.getD i.toNat .top).cells.length==3&&hasShs [Sh.int .i64,Sh.int .i64] (a.getD i.toNat .top).cells 1)) (br (decide (0≤i)&&decide (i<b.length)) (br (decide (i.toNat<b.length)&&((b.getD i.toNat .top).cells.length==3&&hasShs [Sh.int .i64,Sh.int .i64] (b.getD i.toNat .top).cells 1)) (br (!(((a.getD i.toNat .top).cells.getD 1 .top).toInt==((b.getD i.toNat .top).cells.getD 1 .top).toInt&&(((a.getD i.toNat .top).cells.getD 2 .top).toInt==((b.getD i.toNat .top).cells.getD 2 .top).toInt&&true))) (κr (true,(false),())) (br (decide (0≤i)&&decide (i<a.length)) (br (decide (i.toNat<a.length)&&hasSh1 (Sh.list 3) ((a.getD i.toNat .top).cells.getD 0 .top)) (br (decide (0≤i)&&decide (i<b.length)) (br (decide (i.toNat<b.length)&&hasSh1 (Sh.list 3) ((b.getD i.toNat .top).cells.getD 0 .top)) (br ((xbh ((a.getD i.toNat .top).cells.getD 0 .top).toList ((b.getD i.toNat .top).cells.getD 0 .top).toList).isSome) (br ((xbh ((a.getD i.toNat .top).cells.getD 0 .top).toList ((b.getD i.toNat .top).cells.getD 0 .top).toList).getD 0 != 0) (κr (true,(false),())) (κl (i64.wrap (i+1)))) δ) δ) δ) δ) δ)) δ) δ) δ) δ) (κr (false,false,()))
def xbm (a b:LA):(Int)→Option ((Int)⊕(Bool×(Bool)×(Unit))):=fun (i)=>xgU a b i none (fun s=>some (.inl s)) (fun p=>some (.inr p))
def xe4 (a b:LA):(Int)→LA×List Box:=fun (i)=>([AV.list 3 a,AV.list 3 b,AV.int .i64 i],[])
def xea (a b:LA):(Bool×(Bool)×(Unit))→LR:=fun p=>(.node p.1 (.leaf .ret [AV.bool p.2.1] []) (.leaf (.exit 0) [.top] []))
abbrev xAY (a:LA) (H:List Box):=XR Tryz.prog xgC [0,1,5] [4] [] (loopAt Tryz.f13 0) a H
theorem xAZ (a b:LA) (i:Int):Enc (encR (xe4 a b) (xea a b)) (xbm a b i) (xAY (xe4 a b i).1 (xe4 a b i).2):=by
 refine eV (xgU a b i none (fun s=>some (encR (xe4 a b) (xea a b) (.inl s))) (fun p=>some (encR (xe4 a b) (xea a b) (.inr p)))) (by kernel_rfl) ?_;unfold xbm xgU;repeat' first|exact eN|exact eS rfl|apply eB
def xrf:Lp:=lpOf [0,1,5] [4] [] (pCons (pList 3 pAny) (pCons (pList 3 pAny) (pCons (pInt .i64) pNil))) pNil fun (a,(b,(i,_))) _=>((Iter (xbm a b) (i)).isSome,xea a b ((Iter (xbm a b) (i)).getD (false,false,())))
theorem xyK:LoopOk Tryz.prog (ITryz.at xgC.pin) xgC.nt (loopAt Tryz.f13 0) xrf:=xaP fun d f g e=>by
 obtain ⟨a,⟨b,⟨i,_⟩⟩⟩:=d
 obtain ⟨c,rfl⟩:=Prod.mk.inj e
 exact xar mxTryz (inv0Ok Tryz.prog _) rfl xz0 xvc (xe4 a b) (xea a b) (fun p=>by simp only [xea,LR.eval];first|(simp;done)|(repeat' split<;>simp)) (xAZ a b) (s:=(i)) (xab c)
def xin:Env:=xG6.fn 42 0 (lsOf []) (lpsOf [(4,xrf)])
theorem xz1:OrcOk Tryz.prog (ITryz.at 0) xin:=xCp.fn
theorem xwo:LoOk Tryz.prog (ITryz.at xin.pin) xin (Tryz.f13.body.getD .skip):=xaM (ls:=[loopAt Tryz.f13 0]) (by kernel_rfl) (lkC xyK lkN)
def xmb {T:Type} (a b:LA) (δ:T) (κ:Bool→T):T:=br ((↑a.length:Int) != (↑b.length:Int)) (κ (false)) (br ((Iter (xbm a b) 0).isSome) (br (((Iter (xbm a b) 0).getD (false,false,())).fst) (κ (((Iter (xbm a b) 0).getD (false,false,())).snd.fst)) (κ (true))) δ)
def xcf (a b:LA):Option (Bool):=xmb a b none some
theorem xE4 (a b:LA):Enc (fun (p:Bool)=>((AV.bool p):AV)) (xcf a b) (XF Tryz.prog xin Tryz.f13 (Tryz.f13.body.getD .skip) [AV.list 3 a,AV.list 3 b]):=by
 refine eV (xmb a b none (fun (p:Bool)=>some ((AV.bool p):AV))) (by kernel_rfl) ?_;unfold xcf xmb;repeat' first|exact eN|exact eS rfl|apply eB
def xux:LA→Option (Bool×AV):=ocOf (sCons (sList 3 pAny) (sCons (sList 3 pAny) sNil)) fun (a,(b,_))=>((xcf a b).isSome,(AV.bool ((xcf a b).getD false)))
theorem xE3:OcOk Tryz.prog ITryz 13 (xux):=xaL fun f h g=>by
 obtain ⟨a,⟨b,_⟩⟩:=f
 obtain ⟨c,e⟩:=Prod.mk.inj g
 refine xaI (p:=xin.pin) (xaK mxTryz (inv0Ok Tryz.prog _) rfl xz1 Tryz.func13 rfl (by kernel_rfl) xwo ((xE4 _ _ _ (xab (d:=false) c)).trans ?_))
 exact congrArg some e
def xG7:Env:=xG6.with 13 xux
theorem xCq:OrcOk Tryz.prog ITryz xG7:=xCp.with xE3
def xiW:Env:=xG7.fn 61 0 (lsOf []) (lpsOf [])
theorem xDQ:OrcOk Tryz.prog (ITryz.at 0) xiW:=xCq.fn
theorem xyP:LoOk Tryz.prog (ITryz.at xiW.pin) xiW (loopAt Tryz.f98 0):=xaq (by kernel_rfl)
def xeT (a b:LA) (i k:Int):=decide ((xbh ((b.getD k.toNat .top).cells.getD 0 .top).toList ((a.getD i.toNat .top).cells.getD 0 .top).toList).getD 0<0)
def xdc (a:LA) (i:Int):=decide (i.toNat<a.length)&&((a.getD i.toNat .top).cells.length==3&&hasShs [Sh.list 3,Sh.int .i64,Sh.int .i64] (a.getD i.toNat .top).cells 0)
def xdd (b:LA) (k:Int):=decide (k.toNat<b.length)&&((b.getD k.toNat .top).cells.length==3&&hasShs [Sh.list 3,Sh.int .i64,Sh.int .i64] (b.getD k.toNat .top).cells 0)
def xcb (a:LA) (i:Int):=decide (0≤i)&&decide (i<a.length)
def xcc (b:LA) (k:Int):=decide (0≤k)&&decide (k<b.length)
def xed {T:Type} (a b:LA) (c:Nat) (i k:Int) (d:LA) (δ:T) (κl:(Nat×Int×Int×LA)→T) (κr:(Nat×LA)→T):T:=br (decide (i<a.length)) (br (i==(↑a.length:Int)) (br (xcc b k) (br (xdd b k) (br (c==d.length&&(decide ((c+1)*40≤140737488355328)&&decide (c+1≤4611686018427387904))) (κl (c+1,i,i64.wrap (k+1),d++[AV.agg [AV.list 3 ((b.getD k.toNat .top).cells.getD 0 .top).toList,AV.int .i64 ((b.getD k.toNat .top).cells.getD 1 .top).toInt,AV.int .i64 ((b.getD k.toNat .top).cells.getD 2 .top).toInt]])) δ) δ) δ) (br (decide (k<b.length)) (br (xcc b k) (br (decide (k.toNat<b.length)&&hasSh1 (Sh.list 3) ((b.getD k.toNat .top).cells.getD 0 .top)) (br (xcb a i) (br (decide (i.toNat<a.length)&&hasSh1 (Sh.list 3) ((a.getD i.toNat .top).cells.getD 0 .top)) (br ((xbh ((b.getD k.toNat .top).cells.getD 0 .top).toList ((a.getD i.toNat .top).cells.getD 0 .top).toList).isSome) (br (xeT a b i k) (br (xcc b k) (br (xdd b k) (br (c==d.length&&(decide ((c+1)*40≤140737488355328)&&decide (c+1≤4611686018427387904))) (κl (c+1,i,i64.wrap (k+1),d++[AV.agg [AV.list 3 ((b.getD k.toNat .top).cells.getD 0 .top).toList,AV.int .i64 ((b.getD k.toNat .top).cells.getD 1 .top).toInt,AV.int .i64 ((b.getD k.toNat .top).cells.getD 2 .top).toInt]])) δ) δ) δ) (br (xcb a i) (br (xdc a i) (br (c==d.length&&(decide ((c+1)*40≤140737488355328)&&decide (c+1≤4611686018427387904))) (κl (c+1,i64.wrap (i+1),k,d++[AV.agg [AV.list 3 ((a.getD i.toNat .top).cells.getD 0 .top).toList,AV.int .i64 ((a.getD i.toNat .top).cells.getD 1 .top).toInt,AV.int .i64 ((a.getD i.toNat .top).cells.getD 2 .top).toInt]])) δ) δ) δ)) δ) δ) δ) δ) δ) (br (xcb a i) (br (xdc a i) (br (c==d.length&&(decide ((c+1)*40≤140737488355328)&&decide (c+1≤4611686018427387904))) (κl (c+1,i64.wrap (i+1),k,d++[AV.agg [AV.list 3 ((a.getD i.toNat .top).cells.getD 0 .top).toList,AV.int .i64 ((a.getD i.toNat .top).cells.getD 1 .top).toInt,AV.int .i64 ((a.getD i.toNat .top).cells.getD 2 .top).toInt]])) δ) δ) δ))) (br (decide (k<b.length)) (br (i==(↑a.length:Int)) (br (xcc b k) (br (xdd b k) (br (c==d.length&&(decide ((c+1)*40≤140737488355328)&&decide (c+1≤4611686018427387904))) (κl (c+1,i,i64.wrap (k+1),d++[AV.agg [AV.list 3 ((b.getD k.toNat .top).cells.getD 0 .top).toList,AV.int .i64 ((b.getD k.toNat .top).cells.getD 1 .top).toInt,AV.int .i64 ((b.getD k.toNat .top).cells.getD 2 .top).toInt]])) δ) δ) δ) (br (decide (k<b.length)) (br (xcc b k) (br (decide (k.toNat<b.length)&&hasSh1 (Sh.list 3) ((b.getD k.toNat .top).cells.getD 0 .top)) (br (xcb a i) (br (decide (i.toNat<a.length)&&hasSh1 (Sh.list 3) ((a.getD i.toNat .top).cells.getD 0 .top)) (br ((xbh ((b.getD k.toNat .top).cells.getD 0 .top).toList ((a.getD i.toNat .top).cells.getD 0 .top).toList).isSome) (br (xeT a b i k) (br (xcc b k) (br (xdd b k) (br (c==d.length&&(decide ((c+1)*40≤140737488355328)&&decide (c+1≤4611686018427387904))) (κl (c+1,i,i64.wrap (k+1),d++[AV.agg [AV.list 3 ((b.getD k.toNat .top).cells.getD 0 .top).toList,AV.int .i64 ((b.getD k.toNat .top).cells.getD 1 .top).toInt,AV.int .i64 ((b.getD k.toNat .top).cells.getD 2 .top).toInt]])) δ) δ) δ) (br (xcb a i) (br (xdc a i) (br (c==d.length&&(decide ((c+1)*40≤140737488355328)&&decide (c+1≤4611686018427387904))) (κl (c+1,i64.wrap (i+1),k,d++[AV.agg [AV.list 3 ((a.getD i.toNat .top).cells.getD 0 .top).toList,AV.int .i64 ((a.getD i.toNat .top).cells.getD 1 .top).toInt,AV.int .i64 ((a.getD i.toNat .top).cells.getD 2 .top).toInt]])) δ) δ) δ)) δ) δ) δ) δ) δ) (br (xcb a i) (br (xdc a i) (br (c==d.length&&(decide ((c+1)*40≤140737488355328)&&decide (c+1≤4611686018427387904))) (κl (c+1,i64.wrap (i+1),k,d++[AV.agg [AV.list 3 ((a.getD i.toNat .top).cells.getD 0 .top).toList,AV.int .i64 ((a.getD i.toNat .top).cells.getD 1 .top).toInt,AV.int .i64 ((a.getD i.toNat .top).cells.getD 2 .top).toInt]])) δ) δ) δ))) (κr (c,d)))
def xbj (a b:LA):(Nat×Int×Int×LA)→Option ((Nat×Int×Int×LA)⊕(Nat×LA)):=fun (d,i,k,c)=>xed a b d i k c none (fun s=>some (.inl s)) (fun p=>some (.inr p))
def xhq (a b:LA):(Nat×Int×Int×LA)→LA×List Box:=fun (d,i,k,c)=>([AV.list 3 a,AV.list 3 b,AV.osl 0 0 0 d,AV.int .i64 i,AV.int .i64 k],[⟨0,3,42,c,false,true⟩])
def xf0 (a b:LA):(Nat×LA)→LR:=fun p=>(.leaf (.exit 0) [AV.osl 0 0 0 p.1] [⟨0,3,42,p.2,false,true⟩])
abbrev xFf (a:LA) (H:List Box):=XR Tryz.prog xiW [0,1,5,6,7] [5] [(5,3,42)] (loopAt Tryz.f98 0) a H
theorem xFg (a b:LA) (s:Nat×Int×Int×LA):Enc (encR (xhq a b) (xf0 a b)) (xbj a b s) (xFf (xhq a b s).1 (xhq a b s).2):=by
 obtain ⟨d,i,k,c⟩:=s
 refine eV (xed a b d i k c none (fun s=>some (encR (xhq a b) (xf0 a b) (.inl s))) (fun p=>some (encR (xhq a b) (xf0 a b) (.inr p)))) (by kernel_rfl) ?_;unfold xbj xed;repeat' first|exact eN|exact eS rfl|apply eB
def xua:Lp:=lpOf [0,1,5,6,7] [5] [(5,3,42)] (pCons (pList 3 pAny) (pCons (pList 3 pAny) (pCons (pOsl 0 0 0) (pCons (pInt .i64) (pCons (pInt .i64) pNil))))) (pCons (pBox 0 3 42 false true pAny) pNil) fun (a,(b,(d,(i,(k,_))))) (c,_)=>((Iter (xbj a b) (d,i,k,c)).isSome,xf0 a b ((Iter (xbj a b) (d,i,k,c)).getD (0,[])))
theorem xCa:LoopOk Tryz.prog (ITryz.at xiW.pin) xiW.nt (loopAt Tryz.f98 0) xua:=xaP fun f g j h=>by
 obtain ⟨a,⟨b,⟨d,⟨i,⟨k,_⟩⟩⟩⟩⟩:=f
 obtain ⟨c,_⟩:=g
 obtain ⟨e,rfl⟩:=Prod.mk.inj h
 exact xar mxTryz (inv0Ok Tryz.prog _) rfl xDQ xyP (xhq a b) (xf0 a b) (fun p=>by simp only [xf0,LR.eval];first|(simp;done)|(repeat' split<;>simp)) (xFg a b) (s:=(d,i,k,c)) (xab e)
def xln:Env:=xG7.fn 61 0 (lsOf []) (lpsOf [(3,xua)])
theorem xDR:OrcOk Tryz.prog (ITryz.at 0) xln:=xCq.fn
theorem xA2:LoOk Tryz.prog (ITryz.at xln.pin) xln (Tryz.f98.body.getD .skip):=xaM (ls:=[loopAt Tryz.f98 0]) (by kernel_rfl) (lkC xCa lkN)
def xsn (a b:LA):=Iter (xbj a b) (0,0,0,[])
def xsm (a b:LA):=(xsn a b).getD (0,[])
def xsk (a b:LA):=(xsm a b).fst
def xsl (a b:LA):=(xsm a b).snd
def xpt {T:Type} (a b:LA) (δ:T) (κ:LA→T):T:=br ((xsn a b).isSome) (br (decide (0+xsk a b≤(xsl a b).length)&&true) (κ (List.take (xsk a b) (List.drop 0 (xsl a b)))) δ) δ
def xkd (a b:LA):Option (LA):=xpt a b none some
theorem xJO (a b:LA):Enc (fun (p:LA)=>((AV.list 3 p):AV)) (xkd a b) (XF Tryz.prog xln Tryz.f98 (Tryz.f98.body.getD .skip) [AV.list 3 a,AV.list 3 b]):=by
 refine eV (xpt a b none (fun (p:LA)=>some ((AV.list 3 p):AV))) (by kernel_rfl) ?_;unfold xkd xpt;repeat' first|exact eN|exact eS rfl|apply eB
def xz4:LA→Option (Bool×AV):=ocOf (sCons (sList 3 pAny) (sCons (sList 3 pAny) sNil)) fun (a,(b,_))=>((xkd a b).isSome,(AV.list 3 ((xkd a b).getD [])))
theorem xJN:OcOk Tryz.prog ITryz 98 (xz4):=xaL fun f h g=>by
 obtain ⟨a,⟨b,_⟩⟩:=f
 obtain ⟨c,e⟩:=Prod.mk.inj g
 refine xaI (p:=xln.pin) (xaK mxTryz (inv0Ok Tryz.prog _) rfl xDR Tryz.func98 rfl (by kernel_rfl) xA2 ((xJO _ _ _ (xab (d:=[]) c)).trans ?_))
 exact congrArg some e
def xMb:Env:=xG7.with 98 xz4
theorem xKk:OrcOk Tryz.prog ITryz xMb:=xCq.with xJN
def xoI (R:LA→Option (LA)):LA→Option (Bool×AV):=ocOf (sCons (sList 3 pAny) sNil) fun (l,_)=>((R l).isSome,AV.list 3 ((R l).getD []))
def xke (R:LA→Option (LA)):Env:=(xMb.with 73 (xoI R)).fn 20 0 (lsOf []) (lpsOf [])
def xnR (R:LA→Option (LA)):Prop:=OcOk Tryz.prog ITryz 73 (xoI R)
theorem xCb (R:LA→Option (LA)) (a:xnR R):OrcOk Tryz.prog (ITryz.at 0) (xke R):=(xKk.with a).fn
theorem xz5 (R:LA→Option (LA)):LoOk Tryz.prog (ITryz.at (xke R).pin) (xke R) (Tryz.f73.body.getD .skip):=xaq (by kernel_rfl)
def xqZ (l:LA):=decide (0≤i64.wrap ((↑l.length:Int).tdiv 2))&&decide (i64.wrap ((↑l.length:Int).tdiv 2)≤(↑l.length:Int))
def xqx (R:LA→Option (LA)) (l:LA):Option (LA):=R (List.take (l.length - (i64.wrap ((↑l.length:Int).tdiv 2)).toNat) (List.drop (i64.wrap ((↑l.length:Int).tdiv 2)).toNat l))
def xqY (R:LA→Option (LA)) (l:LA):Option (LA):=xkd ((R (List.take ((i64.wrap ((↑l.length:Int).tdiv 2)).toNat - 0) (List.drop 0 l))).getD []) ((xqx R l).getD [])
def xiX {T:Type} (R:LA→Option (LA)) (l:LA) (δ:T) (κ:LA→T):T:=br (decide ((↑l.length:Int)<2)) (κ (l)) (br (xqZ l&&true) (br ((R (List.take ((i64.wrap ((↑l.length:Int).tdiv 2)).toNat - 0) (List.drop 0 l))).isSome) (br (xqZ l) (br ((xqx R l).isSome) (br ((xqY R l).isSome) (κ ((xqY R l).getD [])) δ) δ) δ) δ) δ)
def xd1 (R:LA→Option (LA)) (l:LA):Option (LA):=xiX R l none some
theorem xIj (R:LA→Option (LA)) (l:LA):Enc (fun (p:LA)=>((AV.list 3 p):AV)) (xd1 R l) (XF Tryz.prog (xke R) Tryz.f73 (Tryz.f73.body.getD .skip) [AV.list 3 l]):=by
 refine eV (xiX R l none (fun (p:LA)=>some ((AV.list 3 p):AV))) (by kernel_rfl) ?_;unfold xd1 xiX;repeat' first|exact eN|exact eS rfl|apply eB
def xIi (R:LA→Option (LA)):LA→Option (Bool×AV):=ocOf (sCons (sList 3 pAny) sNil) fun (l,_)=>((xd1 R l).isSome,(AV.list 3 ((xd1 R l).getD [])))
theorem xIh (R:LA→Option (LA)) (c:xnR R):OcOk Tryz.prog ITryz 73 (xIi R):=xaL fun e g f=>by
 obtain ⟨l,_⟩:=e
 obtain ⟨a,b⟩:=Prod.mk.inj f
 refine xaI (p:=(xke R).pin) (xaK mxTryz (inv0Ok Tryz.prog _) rfl (xCb R c) Tryz.func73 rfl (by kernel_rfl) (xz5 R) ((xIj R _ _ (xab (d:=[]) a)).trans ?_))
 exact congrArg some b
def xde:Nat→LA→Option (LA)
 | 0=>fun _=>none
 | fu_+1=>fun l=>xd1 (xde fu_) l
theorem xub:∀ n,xnR (xde n)
 | 0=>xaL fun _ _ h=>absurd (Prod.mk.inj h).1 Bool.false_ne_true
 | fu_+1=>fun a r h=>xIh (xde fu_) (xub fu_) a r h
def xMc:Env:=xMb.with 73 (xoI (xde 100))
theorem xKl:OrcOk Tryz.prog ITryz xMc:=xKk.with (xub _)
def xjY:Env:=xMc.fn 18 0 (lsOf []) (lpsOf [])
theorem xED:OrcOk Tryz.prog (ITryz.at 0) xjY:=xKl.fn
theorem xBL:LoOk Tryz.prog (ITryz.at xjY.pin) xjY (Tryz.f56.body.getD .skip):=xaq (by kernel_rfl)
def xgI (a b:Int):Bool:=(br (decide (a≥0)) (br (decide (a<b)) ((decide (b≤1099511627776))) ((false))) ((false)))
def xwN (a b:Int):Bool:=true
def xBu {T:Type} (a b:Int) (δ:T) (κ:Bool→T):T:=br (decide (a≥0)) (br (decide (a<b)) (κ (decide (b≤1099511627776))) (κ (false))) (κ (false))
theorem xLh (a b:Int):Pre (xwN a b) (XF Tryz.prog xjY Tryz.f56 (Tryz.f56.body.getD .skip) [AV.agg [AV.int .i64 a,AV.int .i64 b]]) (AV.bool (xgI a b)):=by
 have h:XF Tryz.prog xjY Tryz.f56 (Tryz.f56.body.getD .skip) [AV.agg [AV.int .i64 a,AV.int .i64 b]]=xBu a b none (fun (p:Bool)=>some ((AV.bool p):AV)):=by kernel_rfl
 rw [h];unfold xgI xwN xBu;repeat' (first|exact Pre.none|exact Pre.tt rfl|exact Pre.some rfl|refine Pre.l ?_|refine Pre.r ?_|refine Pre.br (f:=fun (p:Bool)=>((AV.bool p):AV)) ?_ ?_|refine Pre.brt (f:=fun (p:Bool)=>((AV.bool p):AV)) ?_ ?_)
def xBt:LA→Option (Bool×AV):=ocOf (sCons (sAgg (sCons (sEq (pInt .i64)) (sCons (sEq (pInt .i64)) sNil))) sNil) fun ((a,(b,_)),_)=>(true,(AV.bool (xgI a b)))
theorem xLg:OcOk Tryz.prog ITryz 56 (xBt):=xaL fun b g c=>by
 obtain ⟨⟨d,⟨e,_⟩⟩,_⟩:=b
 obtain ⟨f,a⟩:=Prod.mk.inj c
 refine xaI (p:=xjY.pin) (xaK mxTryz (inv0Ok Tryz.prog _) rfl xED Tryz.func56 rfl (by kernel_rfl) xBL ((Pre.get (xLh _ _) rfl).trans ?_))
 exact congrArg some a
def xMd:Env:=xMc.with 56 xBt
theorem xKm:OrcOk Tryz.prog ITryz xMd:=xKl.with xLg
def xg7:Env:=xMd.fn 19 0 (lsOf []) (lpsOf [])
theorem xAK:OrcOk Tryz.prog (ITryz.at 0) xg7:=xKm.fn
theorem xyv:LoOk Tryz.prog (ITryz.at xg7.pin) xg7 (Tryz.f26.body.getD .skip):=xaq (by kernel_rfl)
def xjX (a b t:Int):Bool:=(br (xgI a b) (br (decide (a≤t)) ((decide (t<b))) ((false))) ((false)))
def xtX (a b t:Int):Bool:=true
def xvJ {T:Type} (a b t:Int) (δ:T) (κ:Bool→T):T:=br (xgI a b) (br (decide (a≤t)) (κ (decide (t<b))) (κ (false))) (κ (false))
theorem xGv (a b t:Int):Pre (xtX a b t) (XF Tryz.prog xg7 Tryz.f26 (Tryz.f26.body.getD .skip) [AV.agg [AV.int .i64 a,AV.int .i64 b],AV.int .i64 t]) (AV.bool (xjX a b t)):=by
 have h:XF Tryz.prog xg7 Tryz.f26 (Tryz.f26.body.getD .skip) [AV.agg [AV.int .i64 a,AV.int .i64 b],AV.int .i64 t]=xvJ a b t none (fun (p:Bool)=>some ((AV.bool p):AV)):=by kernel_rfl
 rw [h];unfold xjX xtX xvJ;repeat' (first|exact Pre.none|exact Pre.tt rfl|exact Pre.some rfl|refine Pre.l ?_|refine Pre.r ?_|refine Pre.br (f:=fun (p:Bool)=>((AV.bool p):AV)) ?_ ?_|refine Pre.brt (f:=fun (p:Bool)=>((AV.bool p):AV)) ?_ ?_)
def xvI:LA→Option (Bool×AV):=ocOf (sCons (sAgg (sCons (sEq (pInt .i64)) (sCons (sEq (pInt .i64)) sNil))) (sCons (sEq (pInt .i64)) sNil)) fun ((a,(b,_)),(t,_))=>(true,(AV.bool (xjX a b t)))
theorem xGu:OcOk Tryz.prog ITryz 26 (xvI):=xaL fun b g c=>by
 obtain ⟨⟨d,⟨e,_⟩⟩,⟨t,_⟩⟩:=b
 obtain ⟨f,a⟩:=Prod.mk.inj c
 refine xaI (p:=xg7.pin) (xaK mxTryz (inv0Ok Tryz.prog _) rfl xAK Tryz.func26 rfl (by kernel_rfl) xyv ((Pre.get (xGv _ _ _) rfl).trans ?_))
 exact congrArg some a
def xMe:Env:=xMd.with 26 xvI
theorem xKn:OrcOk Tryz.prog ITryz xMe:=xKm.with xGu
def xhx:Env:=xMe.fn 27 0 (lsOf []) (lpsOf [])
theorem xBK:OrcOk Tryz.prog (ITryz.at 0) xhx:=xKn.fn
theorem xzI:LoOk Tryz.prog (ITryz.at xhx.pin) xhx (Tryz.f31.body.getD .skip):=xaq (by kernel_rfl)
def xkz (a b c d:Int):Int:=(br (a==c&&(b==d&&true)) ((0)) (br (decide (a<c)) (((-1))) (br (a==c) (br (decide (b<d)) (((-1))) ((1))) ((1)))))
def xuW (a b c d:Int):Bool:=true
def xwM {T:Type} (a b c d:Int) (δ:T) (κ:Int→T):T:=br (a==c&&(b==d&&true)) (κ (0)) (br (decide (a<c)) (κ ((-1))) (br (a==c) (br (decide (b<d)) (κ ((-1))) (κ (1))) (κ (1))))
theorem xHY (a b c d:Int):Pre (xuW a b c d) (XF Tryz.prog xhx Tryz.f31 (Tryz.f31.body.getD .skip) [AV.agg [AV.int .i64 a,AV.int .i64 b],AV.agg [AV.int .i64 c,AV.int .i64 d]]) (AV.int .i64 (xkz a b c d)):=by
 have h:XF Tryz.prog xhx Tryz.f31 (Tryz.f31.body.getD .skip) [AV.agg [AV.int .i64 a,AV.int .i64 b],AV.agg [AV.int .i64 c,AV.int .i64 d]]=xwM a b c d none (fun (p:Int)=>some ((AV.int .i64 p):AV)):=by kernel_rfl
 rw [h];unfold xkz xuW xwM;repeat' (first|exact Pre.none|exact Pre.tt rfl|exact Pre.some rfl|refine Pre.l ?_|refine Pre.r ?_|refine Pre.br (f:=fun (p:Int)=>((AV.int .i64 p):AV)) ?_ ?_|refine Pre.brt (f:=fun (p:Int)=>((AV.int .i64 p):AV)) ?_ ?_)
def xwL:LA→Option (Bool×AV):=ocOf (sCons (sAgg (sCons (sEq (pInt .i64)) (sCons (sEq (pInt .i64)) sNil))) (sCons (sAgg (sCons (sEq (pInt .i64)) (sCons (sEq (pInt .i64)) sNil))) sNil)) fun ((a,(b,_)),((c,(d,_)),_))=>(true,(AV.int .i64 (xkz a b c d)))
theorem xHX:OcOk Tryz.prog ITryz 31 (xwL):=xaL fun b i c=>by
 obtain ⟨⟨d,⟨e,_⟩⟩,⟨⟨f,⟨g,_⟩⟩,_⟩⟩:=b
 obtain ⟨h,a⟩:=Prod.mk.inj c
 refine xaI (p:=xhx.pin) (xaK mxTryz (inv0Ok Tryz.prog _) rfl xBK Tryz.func31 rfl (by kernel_rfl) xzI ((Pre.get (xHY _ _ _ _) rfl).trans ?_))
 exact congrArg some a
def xOl:Env:=xMe.with 31 xwL
theorem xPk:OrcOk Tryz.prog ITryz xOl:=xKn.with xHX
abbrev xOm:Env:=xOl
theorem xPl:OrcOk Tryz.prog ITryz xOm:=xPk
abbrev xOn:Env:=xOm
theorem xPm:OrcOk Tryz.prog ITryz xOn:=xPl
abbrev xOo:Env:=xOn
theorem xPn:OrcOk Tryz.prog ITryz xOo:=xPm
abbrev xIR:Env:=xOo
theorem xG1:OrcOk Tryz.prog ITryz xIR:=xPn
def xkE:Env:=xIR.fn 2 0 (lsOf []) (lpsOf [])
theorem xGD:OrcOk Tryz.prog (ITryz.at 0) xkE:=xG1.fn
theorem xBV:LoOk Tryz.prog (ITryz.at xkE.pin) xkE (Tryz.f175.body.getD .skip):=xaq (by kernel_rfl)
def xm5:Int×Int×List UInt8:=((0,0,[]))
def xzQ:Bool:=true
def xDq {T:Type} (δ:T) (κ:Int×Int×List UInt8→T):T:=κ (0,0,[])
theorem xM7:Pre (xzQ) (XF Tryz.prog xkE Tryz.f175 (Tryz.f175.body.getD .skip) []) (AV.agg [AV.int .i64 xm5.1,AV.int .i64 xm5.2.1,AV.str xm5.2.2]):=by
 have h:XF Tryz.prog xkE Tryz.f175 (Tryz.f175.body.getD .skip) []=xDq none (fun (p:Int×Int×List UInt8)=>some ((AV.agg [AV.int .i64 p.1,AV.int .i64 p.2.1,AV.str p.2.2]):AV)):=by kernel_rfl
 rw [h];unfold xm5 xzQ xDq;repeat' (first|exact Pre.none|exact Pre.tt rfl|exact Pre.some rfl|refine Pre.l ?_|refine Pre.r ?_|refine Pre.br (f:=fun (p:Int×Int×List UInt8)=>((AV.agg [AV.int .i64 p.1,AV.int .i64 p.2.1,AV.str p.2.2]):AV)) ?_ ?_|refine Pre.brt (f:=fun (p:Int×Int×List UInt8)=>((AV.agg [AV.int .i64 p.1,AV.int .i64 p.2.1,AV.str p.2.2]):AV)) ?_ ?_)
def xDp:LA→Option (Bool×AV):=ocOf sNil fun _=>(true,(AV.agg [AV.int .i64 xm5.1,AV.int .i64 xm5.2.1,AV.str xm5.2.2]))
theorem xM6:OcOk Tryz.prog ITryz 175 (xDp):=xaL fun d e b=>by
 obtain ⟨c,a⟩:=Prod.mk.inj b
 refine xaI (p:=xkE.pin) (xaK mxTryz (inv0Ok Tryz.prog _) rfl xGD Tryz.func175 rfl (by kernel_rfl) xBV ((Pre.get (xM7) rfl).trans ?_))
 exact congrArg some a
def xIS:Env:=xIR.with 175 xDp
theorem xG2:OrcOk Tryz.prog ITryz xIS:=xG1.with xM6
def xqd:Env:=xIS.fn 18 0 (lsOf []) (lpsOf [])
theorem xJt:OrcOk Tryz.prog (ITryz.at 0) xqd:=xG2.fn
theorem xEP:LoOk Tryz.prog (ITryz.at xqd.pin) xqd (Tryz.f156.body.getD .skip):=xaq (by kernel_rfl)
def xAQ {T:Type} (a:LA) (i:Int) (δ:T) (κ:Int×Int×List UInt8→T):T:=br (decide (i<0)) (κ (0,0,[])) (br (decide (i≥a.length)) (κ (0,0,[])) (br (decide (0≤i)&&decide (i<a.length)) (br (decide (i.toNat<a.length)&&((a.getD i.toNat .top).cells.length==3&&hasShs [Sh.int .i64,Sh.int .i64,Sh.str] (a.getD i.toNat .top).cells 0)) (κ (((a.getD i.toNat .top).cells.getD 0 .top).toInt,((a.getD i.toNat .top).cells.getD 1 .top).toInt,((a.getD i.toNat .top).cells.getD 2 .top).toStr)) δ) δ))
def xlV (a:LA) (i:Int):Option (Int×Int×List UInt8):=xAQ a i none some
theorem xPZ (a:LA) (i:Int):Enc (fun (p:Int×Int×List UInt8)=>((AV.agg [AV.int .i64 p.1,AV.int .i64 p.2.1,AV.str p.2.2]):AV)) (xlV a i) (XF Tryz.prog xqd Tryz.f156 (Tryz.f156.body.getD .skip) [AV.list 3 a,AV.int .i64 i]):=by
 refine eV (xAQ a i none (fun (p:Int×Int×List UInt8)=>some ((AV.agg [AV.int .i64 p.1,AV.int .i64 p.2.1,AV.str p.2.2]):AV))) (by kernel_rfl) ?_;unfold xlV xAQ;repeat' first|exact eN|exact eS rfl|apply eB
def xH6:LA→Option (Bool×AV):=ocOf (sCons (sList 3 pAny) (sCons (sEq (pInt .i64)) sNil)) fun (a,(i,_))=>((xlV a i).isSome,(AV.agg [AV.int .i64 ((xlV a i).getD (0,0,[])).1,AV.int .i64 ((xlV a i).getD (0,0,[])).2.1,AV.str ((xlV a i).getD (0,0,[])).2.2]))
theorem xPY:OcOk Tryz.prog ITryz 156 (xH6):=xaL fun c g e=>by
 obtain ⟨f,⟨i,_⟩⟩:=c
 obtain ⟨a,b⟩:=Prod.mk.inj e
 refine xaI (p:=xqd.pin) (xaK mxTryz (inv0Ok Tryz.prog _) rfl xJt Tryz.func156 rfl (by kernel_rfl) xEP ((xPZ _ _ _ (xab (d:=(0,0,[])) a)).trans ?_))
 exact congrArg some b
def xEh:Env:=xIS.with 156 xH6
theorem xAi:OrcOk Tryz.prog ITryz xEh:=xG2.with xPY
def xiN:Env:=xEh.fn 44 0 (lsOf []) (lpsOf [])
theorem xDz:OrcOk Tryz.prog (ITryz.at 0) xiN:=xAi.fn
theorem xwl:LoOk Tryz.prog (ITryz.at xiN.pin) xiN (loopAt Tryz.f136 0):=xaq (by kernel_rfl)
def xoB (o:LA) (i:Int):=decide (0≤i)&&decide (i<o.length)
def xt3 (b o:LA) (i:Int):=(xlV b ((o.getD i.toNat .top).cells.getD 0 .top).toInt).getD (0,0,[])
def xt4 (a o:LA) (i:Int):=(xlV a ((o.getD i.toNat .top).cells.getD 0 .top).toInt).getD (0,0,[])
def xt1 (b o:LA) (i:Int):=(xt3 b o i).snd
def xt2 (a o:LA) (i:Int):=(xt4 a o i).snd
def xt0 (a b o:LA) (i:Int):=xhC (xt4 a o i).fst (xt2 a o i).fst (xt2 a o i).snd (xt3 b o i).fst (xt1 b o i).fst (xt1 b o i).snd
def xl9 {T:Type} (a b o:LA) (i:Int) (δ:T) (κl:(Int)→T) (κr:(Bool×(Bool)×(Unit))→T):T:=br (decide (i<o.length)) (br (xoB o i) (br (decide (i.toNat<o.length)&&hasSh1 (Sh.int .i64) ((o.getD i.toNat .top).cells.getD 0 .top)) (br ((xlV a ((o.getD i.toNat .top).cells.getD 0 .top).toInt).isSome) (br (xoB o i) (br (decide (i.toNat<o.length)&&hasSh1 (Sh.int .i64) ((o.getD i.toNat .top).cells.getD 0 .top)) (br ((xlV b ((o.getD i.toNat .top).cells.getD 0 .top).toInt).isSome) (br (xt0 a b o i != 0) (br (xoB o i) (br (decide (i.toNat<o.length)&&hasSh1 Sh.bool ((o.getD i.toNat .top).cells.getD 1 .top)) (κr (true,(!decide (xt0 a b o i<0)==((o.getD i.toNat .top).cells.getD 1 .top).toBool),())) δ) δ) (κl (i64.wrap (i+1)))) δ) δ) δ) δ) δ) δ) (κr (false,false,()))
def xcD (a b o:LA):(Int)→Option ((Int)⊕(Bool×(Bool)×(Unit))):=fun (i)=>xl9 a b o i none (fun s=>some (.inl s)) (fun p=>some (.inr p))
def xhf (a b o:LA):(Int)→LA×List Box:=fun (i)=>([AV.list 3 a,AV.list 3 b,AV.list 2 o,AV.int .i64 i],[])
def xfT (a b o:LA):(Bool×(Bool)×(Unit))→LR:=fun p=>(.node p.1 (.leaf .ret [AV.list 3 a,AV.list 3 b,AV.bool p.2.1] []) (.leaf (.exit 0) [AV.list 3 a,AV.list 3 b,.top] []))
abbrev xES (a:LA) (H:List Box):=XR Tryz.prog xiN [0,1,2,7] [0,1,6] [] (loopAt Tryz.f136 0) a H
theorem xET (a b o:LA) (i:Int):Enc (encR (xhf a b o) (xfT a b o)) (xcD a b o i) (xES (xhf a b o i).1 (xhf a b o i).2):=by
 refine eV (xl9 a b o i none (fun s=>some (encR (xhf a b o) (xfT a b o) (.inl s))) (fun p=>some (encR (xhf a b o) (xfT a b o) (.inr p)))) (by kernel_rfl) ?_;unfold xcD xl9;repeat' first|exact eN|exact eS rfl|apply eB
def xtx:Lp:=lpOf [0,1,2,7] [0,1,6] [] (pCons (pList 3 pAny) (pCons (pList 3 pAny) (pCons (pList 2 pAny) (pCons (pInt .i64) pNil)))) pNil fun (a,(b,(o,(i,_)))) _=>((Iter (xcD a b o) (i)).isSome,xfT a b o ((Iter (xcD a b o) (i)).getD (false,false,())))
theorem xB1:LoopOk Tryz.prog (ITryz.at xiN.pin) xiN.nt (loopAt Tryz.f136 0) xtx:=xaP fun d f g e=>by
 obtain ⟨a,⟨b,⟨o,⟨i,_⟩⟩⟩⟩:=d
 obtain ⟨c,rfl⟩:=Prod.mk.inj e
 exact xar mxTryz (inv0Ok Tryz.prog _) rfl xDz xwl (xhf a b o) (xfT a b o) (fun p=>by simp only [xfT,LR.eval];first|(simp;done)|(repeat' split<;>simp)) (xET a b o) (s:=(i)) (xab c)
def xld:Env:=xEh.fn 44 0 (lsOf []) (lpsOf [(2,xtx)])
theorem xDA:OrcOk Tryz.prog (ITryz.at 0) xld:=xAi.fn
theorem xzU:LoOk Tryz.prog (ITryz.at xld.pin) xld (Tryz.f136.body.getD .skip):=xaM (ls:=[loopAt Tryz.f136 0]) (by kernel_rfl) (lkC xB1 lkN)
def xpn {T:Type} (a b o:LA) (δ:T) (κ:Bool→T):T:=br ((Iter (xcD a b o) 0).isSome) (br (((Iter (xcD a b o) 0).getD (false,false,())).fst) (κ (((Iter (xcD a b o) 0).getD (false,false,())).snd.fst)) (br ((xbh a b).isSome) (κ (decide ((xbh a b).getD 0<0))) δ)) δ
def xge (a b o:LA):Option (Bool):=xpn a b o none some
theorem xJv (a b o:LA):Enc (fun (p:Bool)=>((AV.bool p):AV)) (xge a b o) (XF Tryz.prog xld Tryz.f136 (Tryz.f136.body.getD .skip) [AV.list 3 a,AV.list 3 b,AV.list 2 o]):=by
 refine eV (xpn a b o none (fun (p:Bool)=>some ((AV.bool p):AV))) (by kernel_rfl) ?_;unfold xge xpn;repeat' first|exact eN|exact eS rfl|apply eB
def xzV:LA→Option (Bool×AV):=ocOf (sCons (sList 3 pAny) (sCons (sList 3 pAny) (sCons (sList 2 pAny) sNil))) fun (a,(b,(o,_)))=>((xge a b o).isSome,(AV.bool ((xge a b o).getD false)))
theorem xJu:OcOk Tryz.prog ITryz 136 (xzV):=xaL fun f h g=>by
 obtain ⟨a,⟨b,⟨o,_⟩⟩⟩:=f
 obtain ⟨c,e⟩:=Prod.mk.inj g
 refine xaI (p:=xld.pin) (xaK mxTryz (inv0Ok Tryz.prog _) rfl xDA Tryz.func136 rfl (by kernel_rfl) xzU ((xJv _ _ _ _ (xab (d:=false) c)).trans ?_))
 exact congrArg some e
def xEi:Env:=xEh.with 136 xzV
theorem xAj:OrcOk Tryz.prog ITryz xEi:=xAi.with xJu
def xiO:Env:=xEi.fn 62 0 (lsOf []) (lpsOf [])
theorem xDB:OrcOk Tryz.prog (ITryz.at 0) xiO:=xAj.fn
theorem xwm:LoOk Tryz.prog (ITryz.at xiO.pin) xiO (loopAt Tryz.f110 0):=xaq (by kernel_rfl)
def xb7 (a:LA) (i:Int):=decide (i.toNat<a.length)&&hasSh1 (Sh.list 3) ((a.getD i.toNat .top).cells.getD 0 .top)
def xb8 (b:LA) (k:Int):=decide (k.toNat<b.length)&&hasSh1 (Sh.list 3) ((b.getD k.toNat .top).cells.getD 0 .top)
def xb9 (b:LA) (k:Int):=decide (0≤k)&&decide (k<b.length)
def xca (a:LA) (i:Int):=decide (0≤i)&&decide (i<a.length)
def xec {T:Type} (a b o:LA) (c:Nat) (i k:Int) (d:LA) (δ:T) (κl:(Nat×Int×Int×LA)→T) (κr:(Nat×LA)→T):T:=br (decide (i<a.length)) (br (i==(↑a.length:Int)) (br (xb9 b k) (br (xb8 b k) (br (c==d.length&&(decide ((c+1)*24≤140737488355328)&&decide (c+1≤4611686018427387904))) (κl (c+1,i,i64.wrap (k+1),d++[AV.list 3 ((b.getD k.toNat .top).cells.getD 0 .top).toList])) δ) δ) δ) (br (decide (k<b.length)) (br (xb9 b k) (br (xb8 b k) (br (xca a i) (br (xb7 a i) (br ((xge ((b.getD k.toNat .top).cells.getD 0 .top).toList ((a.getD i.toNat .top).cells.getD 0 .top).toList o).isSome) (br ((xge ((b.getD k.toNat .top).cells.getD 0 .top).toList ((a.getD i.toNat .top).cells.getD 0 .top).toList o).getD false) (br (xb9 b k) (br (xb8 b k) (br (c==d.length&&(decide ((c+1)*24≤140737488355328)&&decide (c+1≤4611686018427387904))) (κl (c+1,i,i64.wrap (k+1),d++[AV.list 3 ((b.getD k.toNat .top).cells.getD 0 .top).toList])) δ) δ) δ) (br (xca a i) (br (xb7 a i) (br (c==d.length&&(decide ((c+1)*24≤140737488355328)&&decide (c+1≤4611686018427387904))) (κl (c+1,i64.wrap (i+1),k,d++[AV.list 3 ((a.getD i.toNat .top).cells.getD 0 .top).toList])) δ) δ) δ)) δ) δ) δ) δ) δ) (br (xca a i) (br (xb7 a i) (br (c==d.length&&(decide ((c+1)*24≤140737488355328)&&decide (c+1≤4611686018427387904))) (κl (c+1,i64.wrap (i+1),k,d++[AV.list 3 ((a.getD i.toNat .top).cells.getD 0 .top).toList])) δ) δ) δ))) (br (decide (k<b.length)) (br (i==(↑a.length:Int)) (br (xb9 b k) (br (xb8 b k) (br (c==d.length&&(decide ((c+1)*24≤140737488355328)&&decide (c+1≤4611686018427387904))) (κl (c+1,i,i64.wrap (k+1),d++[AV.list 3 ((b.getD k.toNat .top).cells.getD 0 .top).toList])) δ) δ) δ) (br (decide (k<b.length)) (br (xb9 b k) (br (xb8 b k) (br (xca a i) (br (xb7 a i) (br ((xge ((b.getD k.toNat .top).cells.getD 0 .top).toList ((a.getD i.toNat .top).cells.getD 0 .top).toList o).isSome) (br ((xge ((b.getD k.toNat .top).cells.getD 0 .top).toList ((a.getD i.toNat .top).cells.getD 0 .top).toList o).getD false) (br (xb9 b k) (br (xb8 b k) (br (c==d.length&&(decide ((c+1)*24≤140737488355328)&&decide (c+1≤4611686018427387904))) (κl (c+1,i,i64.wrap (k+1),d++[AV.list 3 ((b.getD k.toNat .top).cells.getD 0 .top).toList])) δ) δ) δ) (br (xca a i) (br (xb7 a i) (br (c==d.length&&(decide ((c+1)*24≤140737488355328)&&decide (c+1≤4611686018427387904))) (κl (c+1,i64.wrap (i+1),k,d++[AV.list 3 ((a.getD i.toNat .top).cells.getD 0 .top).toList])) δ) δ) δ)) δ) δ) δ) δ) δ) (br (xca a i) (br (xb7 a i) (br (c==d.length&&(decide ((c+1)*24≤140737488355328)&&decide (c+1≤4611686018427387904))) (κl (c+1,i64.wrap (i+1),k,d++[AV.list 3 ((a.getD i.toNat .top).cells.getD 0 .top).toList])) δ) δ) δ))) (κr (c,d)))
def xbi (a b o:LA):(Nat×Int×Int×LA)→Option ((Nat×Int×Int×LA)⊕(Nat×LA)):=fun (d,i,k,c)=>xec a b o d i k c none (fun s=>some (.inl s)) (fun p=>some (.inr p))
def xhg (a b o:LA):(Nat×Int×Int×LA)→LA×List Box:=fun (d,i,k,c)=>([AV.list 1 a,AV.list 1 b,AV.list 2 o,AV.osl 0 0 0 d,AV.int .i64 i,AV.int .i64 k],[⟨0,1,40,c,false,true⟩])
def xfU (a b o:LA):(Nat×LA)→LR:=fun p=>(.leaf (.exit 0) [AV.osl 0 0 0 p.1] [⟨0,1,40,p.2,false,true⟩])
abbrev xEU (a:LA) (H:List Box):=XR Tryz.prog xiO [0,1,2,7,8,9] [7] [(7,1,40)] (loopAt Tryz.f110 0) a H
theorem xEV (a b o:LA) (s:Nat×Int×Int×LA):Enc (encR (xhg a b o) (xfU a b o)) (xbi a b o s) (xEU (xhg a b o s).1 (xhg a b o s).2):=by
 obtain ⟨d,i,k,c⟩:=s
 refine eV (xec a b o d i k c none (fun s=>some (encR (xhg a b o) (xfU a b o) (.inl s))) (fun p=>some (encR (xhg a b o) (xfU a b o) (.inr p)))) (by kernel_rfl) ?_;unfold xbi xec;repeat' first|exact eN|exact eS rfl|apply eB
def xt5:Lp:=lpOf [0,1,2,7,8,9] [7] [(7,1,40)] (pCons (pList 1 pAny) (pCons (pList 1 pAny) (pCons (pList 2 pAny) (pCons (pOsl 0 0 0) (pCons (pInt .i64) (pCons (pInt .i64) pNil)))))) (pCons (pBox 0 1 40 false true pAny) pNil) fun (a,(b,(o,(d,(i,(k,_)))))) (c,_)=>((Iter (xbi a b o) (d,i,k,c)).isSome,xfU a b o ((Iter (xbi a b o) (d,i,k,c)).getD (0,[])))
theorem xB2:LoopOk Tryz.prog (ITryz.at xiO.pin) xiO.nt (loopAt Tryz.f110 0) xt5:=xaP fun f g j h=>by
 obtain ⟨a,⟨b,⟨o,⟨d,⟨i,⟨k,_⟩⟩⟩⟩⟩⟩:=f
 obtain ⟨c,_⟩:=g
 obtain ⟨e,rfl⟩:=Prod.mk.inj h
 exact xar mxTryz (inv0Ok Tryz.prog _) rfl xDB xwm (xhg a b o) (xfU a b o) (fun p=>by simp only [xfU,LR.eval];first|(simp;done)|(repeat' split<;>simp)) (xEV a b o) (s:=(d,i,k,c)) (xab e)
def xle:Env:=xEi.fn 62 0 (lsOf []) (lpsOf [(3,xt5)])
theorem xDC:OrcOk Tryz.prog (ITryz.at 0) xle:=xAj.fn
theorem xzW:LoOk Tryz.prog (ITryz.at xle.pin) xle (Tryz.f110.body.getD .skip):=xaM (ls:=[loopAt Tryz.f110 0]) (by kernel_rfl) (lkC xB2 lkN)
def xr6 (a b o:LA):=Iter (xbi a b o) (0,0,0,[])
def xr5 (a b o:LA):=(xr6 a b o).getD (0,[])
def xr3 (a b o:LA):=(xr5 a b o).snd
def xr4 (a b o:LA):=(xr5 a b o).fst
def xpo {T:Type} (a b o:LA) (δ:T) (κ:LA→T):T:=br ((xr6 a b o).isSome) (br (decide (0+xr4 a b o≤(xr3 a b o).length)&&true) (κ (List.take (xr4 a b o) (List.drop 0 (xr3 a b o)))) δ) δ
def xkc (a b o:LA):Option (LA):=xpo a b o none some
theorem xJy (a b o:LA):Enc (fun (p:LA)=>((AV.list 1 p):AV)) (xkc a b o) (XF Tryz.prog xle Tryz.f110 (Tryz.f110.body.getD .skip) [AV.list 1 a,AV.list 1 b,AV.list 2 o]):=by
 refine eV (xpo a b o none (fun (p:LA)=>some ((AV.list 1 p):AV))) (by kernel_rfl) ?_;unfold xkc xpo;repeat' first|exact eN|exact eS rfl|apply eB
def xzX:LA→Option (Bool×AV):=ocOf (sCons (sList 1 pAny) (sCons (sList 1 pAny) (sCons (sList 2 pAny) sNil))) fun (a,(b,(o,_)))=>((xkc a b o).isSome,(AV.list 1 ((xkc a b o).getD [])))
theorem xJw:OcOk Tryz.prog ITryz 110 (xzX):=xaL fun f h g=>by
 obtain ⟨a,⟨b,⟨o,_⟩⟩⟩:=f
 obtain ⟨c,e⟩:=Prod.mk.inj g
 refine xaI (p:=xle.pin) (xaK mxTryz (inv0Ok Tryz.prog _) rfl xDC Tryz.func110 rfl (by kernel_rfl) xzW ((xJy _ _ _ _ (xab (d:=[]) c)).trans ?_))
 exact congrArg some e
def xIT:Env:=xEi.with 110 xzX
theorem xG3:OrcOk Tryz.prog ITryz xIT:=xAj.with xJw
def xqX (R:LA→LA→Option (LA)):LA→Option (Bool×AV):=ocOf (sCons (sList 1 pAny) (sCons (sList 2 pAny) sNil)) fun (l,(o,_))=>((R l o).isSome,AV.list 1 ((R l o).getD []))
def xmr (R:LA→LA→Option (LA)):Env:=(xIT.with 86 (xqX R)).fn 34 0 (lsOf []) (lpsOf [])
def xpR (R:LA→LA→Option (LA)):Prop:=OcOk Tryz.prog ITryz 86 (xqX R)
theorem xER (R:LA→LA→Option (LA)) (a:xpR R):OrcOk Tryz.prog (ITryz.at 0) (xmr R):=(xG3.with a).fn
theorem xB0 (R:LA→LA→Option (LA)):LoOk Tryz.prog (ITryz.at (xmr R).pin) (xmr R) (Tryz.f86.body.getD .skip):=xaq (by kernel_rfl)
def xmt (l:LA):=decide (0≤i64.wrap ((↑l.length:Int).tdiv 2))&&decide (i64.wrap ((↑l.length:Int).tdiv 2)≤(↑l.length:Int))
def xh8 (l:LA):Nat:=0+((l.getD 0 .top).cells.getD 0 .top).toList.length
def xmu (R:LA→LA→Option (LA)) (l o:LA):Option (LA):=R (List.take (l.length - (i64.wrap ((↑l.length:Int).tdiv 2)).toNat) (List.drop (i64.wrap ((↑l.length:Int).tdiv 2)).toNat l)) o
def xms (R:LA→LA→Option (LA)) (l o:LA):Option (LA):=xkc ((R (List.take ((i64.wrap ((↑l.length:Int).tdiv 2)).toNat - 0) (List.drop 0 l)) o).getD []) ((xmu R l o).getD []) o
def xhD {T:Type} (R:LA→LA→Option (LA)) (l o:LA) (δ:T) (κ:LA→T):T:=br ((↑l.length:Int)==0) (κ ([])) (br ((↑l.length:Int)==1) (br (decide (0<(↑l.length:Int))) (br (decide (0<l.length)&&hasSh1 (Sh.list 3) ((l.getD 0 .top).cells.getD 0 .top)) (br (decide (xh8 l*32≤140737488355328)&&decide (xh8 l≤4611686018427387904)) (br (decide (0+xh8 l≤([]++((l.getD 0 .top).cells.getD 0 .top).toList).length)&&true&&true&&true) (κ ([AV.list 3 (List.take (xh8 l) (List.drop 0 ([]++((l.getD 0 .top).cells.getD 0 .top).toList)))])) δ) δ) δ) δ) (br (xmt l&&true) (br ((R (List.take ((i64.wrap ((↑l.length:Int).tdiv 2)).toNat - 0) (List.drop 0 l)) o).isSome) (br (xmt l) (br ((xmu R l o).isSome) (br ((xms R l o).isSome) (κ ((xms R l o).getD [])) δ) δ) δ) δ) δ))
def xdE (R:LA→LA→Option (LA)) (l o:LA):Option (LA):=xhD R l o none some
theorem xLu (R:LA→LA→Option (LA)) (l o:LA):Enc (fun (p:LA)=>((AV.list 1 p):AV)) (xdE R l o) (XF Tryz.prog (xmr R) Tryz.f86 (Tryz.f86.body.getD .skip) [AV.list 1 l,AV.list 2 o]):=by
 refine eV (xhD R l o none (fun (p:LA)=>some ((AV.list 1 p):AV))) (by kernel_rfl) ?_;unfold xdE xhD;repeat' first|exact eN|exact eS rfl|apply eB
def xLt (R:LA→LA→Option (LA)):LA→Option (Bool×AV):=ocOf (sCons (sList 1 pAny) (sCons (sList 2 pAny) sNil)) fun (l,(o,_))=>((xdE R l o).isSome,(AV.list 1 ((xdE R l o).getD [])))
theorem xLs (R:LA→LA→Option (LA)) (c:xpR R):OcOk Tryz.prog ITryz 86 (xLt R):=xaL fun e g f=>by
 obtain ⟨l,⟨o,_⟩⟩:=e
 obtain ⟨a,b⟩:=Prod.mk.inj f
 refine xaI (p:=(xmr R).pin) (xaK mxTryz (inv0Ok Tryz.prog _) rfl (xER R c) Tryz.func86 rfl (by kernel_rfl) (xB0 R) ((xLu R _ _ _ (xab (d:=[]) a)).trans ?_))
 exact congrArg some b
def xdw:Nat→LA→LA→Option (LA)
 | 0=>fun _ _=>none
 | fu_+1=>fun l o=>xdE (xdw fu_) l o
theorem xvO:∀ n,xpR (xdw n)
 | 0=>xaL fun _ _ h=>absurd (Prod.mk.inj h).1 Bool.false_ne_true
 | fu_+1=>fun a r h=>xLs (xdw fu_) (xvO fu_) a r h
def xIU:Env:=xIT.with 86 (xqX (xdw 1000))
theorem xG4:OrcOk Tryz.prog ITryz xIU:=xG3.with (xvO _)
def xnn:Env:=xIU.fn 5 0 (lsOf []) (lpsOf [])
theorem xGH:OrcOk Tryz.prog (ITryz.at 0) xnn:=xG4.fn
theorem xDw:LoOk Tryz.prog (ITryz.at xnn.pin) xnn (Tryz.f60.body.getD .skip):=xaq (by kernel_rfl)
def xr2 {T:Type} (l:LA) (δ:T) (κ:LA→T):T:=br ((xdw 1000 l []).isSome) (κ ((xdw 1000 l []).getD [])) δ
def xjD (l:LA):Option (LA):=xr2 l none some
theorem xNb (l:LA):Enc (fun (p:LA)=>((AV.list 1 p):AV)) (xjD l) (XF Tryz.prog xnn Tryz.f60 (Tryz.f60.body.getD .skip) [AV.list 1 l]):=by
 refine eV (xr2 l none (fun (p:LA)=>some ((AV.list 1 p):AV))) (by kernel_rfl) ?_;unfold xjD xr2;repeat' first|exact eN|exact eS rfl|apply eB
def xDy:LA→Option (Bool×AV):=ocOf (sCons (sList 1 pAny) sNil) fun (l,_)=>((xjD l).isSome,(AV.list 1 ((xjD l).getD [])))
theorem xNa:OcOk Tryz.prog ITryz 60 (xDy):=xaL fun c f e=>by
 obtain ⟨l,_⟩:=c
 obtain ⟨a,b⟩:=Prod.mk.inj e
 refine xaI (p:=xnn.pin) (xaK mxTryz (inv0Ok Tryz.prog _) rfl xGH Tryz.func60 rfl (by kernel_rfl) xDw ((xNb _ _ (xab (d:=[]) a)).trans ?_))
 exact congrArg some b
def xEj:Env:=xIU.with 60 xDy
theorem xAk:OrcOk Tryz.prog ITryz xEj:=xG4.with xNa
def xhe:Env:=xEj.fn 38 0 (lsOf []) (lpsOf [])
theorem xAS:OrcOk Tryz.prog (ITryz.at 0) xhe:=xAk.fn
theorem xvM:LoOk Tryz.prog (ITryz.at xhe.pin) xhe (loopAt Tryz.f29 0):=xaq (by kernel_rfl)
def xgS (a:LA) (i:Int):=decide (i.toNat<a.length)&&hasSh1 (Sh.list 3) ((a.getD i.toNat .top).cells.getD 0 .top)
def xgT (a:LA) (i:Int):=decide (0≤i)&&decide (i<a.length)
def xjC (a:LA) (i:Int):=xlW ((a.getD (i64.wrap (i - 1)).toNat .top).cells.getD 0 .top).toList ((a.getD i.toNat .top).cells.getD 0 .top).toList
def xfS {T:Type} (b:LA) (a:Nat) (i:Int) (c:LA) (δ:T) (κl:(Nat×Int×LA)→T) (κr:(Nat×LA)→T):T:=br (decide (i<b.length)) (br (i==0) (br (xgT b i) (br (xgS b i) (br (a==c.length&&(decide ((a+1)*24≤140737488355328)&&decide (a+1≤4611686018427387904))) (κl (a+1,i64.wrap (i+1),c++[AV.list 3 ((b.getD i.toNat .top).cells.getD 0 .top).toList])) δ) δ) δ) (br (decide (0≤i64.wrap (i - 1))&&decide (i64.wrap (i - 1)<(↑b.length:Int))) (br (decide ((i64.wrap (i - 1)).toNat<b.length)&&hasSh1 (Sh.list 3) ((b.getD (i64.wrap (i - 1)).toNat .top).cells.getD 0 .top)) (br (xgT b i) (br (xgS b i) (br ((xjC b i).isSome) (br (!(xjC b i).getD false) (br (xgT b i) (br (xgS b i) (br (a==c.length&&(decide ((a+1)*24≤140737488355328)&&decide (a+1≤4611686018427387904))) (κl (a+1,i64.wrap (i+1),c++[AV.list 3 ((b.getD i.toNat .top).cells.getD 0 .top).toList])) δ) δ) δ) (κl (a,i64.wrap (i+1),c))) δ) δ) δ) δ) δ)) (κr (a,c))
def xbu (c:LA):(Nat×Int×LA)→Option ((Nat×Int×LA)⊕(Nat×LA)):=fun (b,i,a)=>xfS c b i a none (fun s=>some (.inl s)) (fun p=>some (.inr p))
def xfR (c:LA):(Nat×Int×LA)→LA×List Box:=fun (b,i,a)=>([AV.list 1 c,AV.osl 0 0 0 b,AV.int .i64 i],[⟨0,1,40,a,false,true⟩])
def xeB (a:LA):(Nat×LA)→LR:=fun p=>(.leaf (.exit 0) [AV.osl 0 0 0 p.1] [⟨0,1,40,p.2,false,true⟩])
abbrev xBY (a:LA) (H:List Box):=XR Tryz.prog xhe [3,4,5] [4] [(4,1,40)] (loopAt Tryz.f29 0) a H
theorem xBZ (a:LA) (s:Nat×Int×LA):Enc (encR (xfR a) (xeB a)) (xbu a s) (xBY (xfR a s).1 (xfR a s).2):=by
 obtain ⟨c,i,b⟩:=s
 refine eV (xfS a c i b none (fun s=>some (encR (xfR a) (xeB a) (.inl s))) (fun p=>some (encR (xfR a) (xeB a) (.inr p)))) (by kernel_rfl) ?_;unfold xbu xfS;repeat' first|exact eN|exact eS rfl|apply eB
def xr1:Lp:=lpOf [3,4,5] [4] [(4,1,40)] (pCons (pList 1 pAny) (pCons (pOsl 0 0 0) (pCons (pInt .i64) pNil))) (pCons (pBox 0 1 40 false true pAny) pNil) fun (c,(b,(i,_))) (a,_)=>((Iter (xbu c) (b,i,a)).isSome,xeB c ((Iter (xbu c) (b,i,a)).getD (0,[])))
theorem xzT:LoopOk Tryz.prog (ITryz.at xhe.pin) xhe.nt (loopAt Tryz.f29 0) xr1:=xaP fun e f h g=>by
 obtain ⟨a,⟨c,⟨i,_⟩⟩⟩:=e
 obtain ⟨b,_⟩:=f
 obtain ⟨d,rfl⟩:=Prod.mk.inj g
 exact xar mxTryz (inv0Ok Tryz.prog _) rfl xAS xvM (xfR a) (xeB a) (fun p=>by simp only [xeB,LR.eval];first|(simp;done)|(repeat' split<;>simp)) (xBZ a) (s:=(c,i,b)) (xab d)
def xjo:Env:=xEj.fn 38 0 (lsOf []) (lpsOf [(4,xr1)])
theorem xAT:OrcOk Tryz.prog (ITryz.at 0) xjo:=xAk.fn
theorem xyH:LoOk Tryz.prog (ITryz.at xjo.pin) xjo (Tryz.f29.body.getD .skip):=xaM (ls:=[loopAt Tryz.f29 0]) (by kernel_rfl) (lkC xzT lkN)
def xpQ (l:LA):=(Iter (xbu ((xjD l).getD [])) (0,0,[])).getD (0,[])
def xpO (l:LA):=(xpQ l).snd
def xpP (l:LA):=(xpQ l).fst
def xm6 {T:Type} (l:LA) (δ:T) (κ:LA→T):T:=br ((xjD l).isSome) (br ((Iter (xbu ((xjD l).getD [])) (0,0,[])).isSome) (br (decide (0+xpP l≤(xpO l).length)&&true) (κ (List.take (xpP l) (List.drop 0 (xpO l)))) δ) δ) δ
def xh7 (l:LA):Option (LA):=xm6 l none some
theorem xGG (l:LA):Enc (fun (p:LA)=>((AV.list 1 p):AV)) (xh7 l) (XF Tryz.prog xjo Tryz.f29 (Tryz.f29.body.getD .skip) [AV.list 1 l]):=by
 refine eV (xm6 l none (fun (p:LA)=>some ((AV.list 1 p):AV))) (by kernel_rfl) ?_;unfold xh7 xm6;repeat' first|exact eN|exact eS rfl|apply eB
def xvN:LA→Option (Bool×AV):=ocOf (sCons (sList 1 pAny) sNil) fun (l,_)=>((xh7 l).isSome,(AV.list 1 ((xh7 l).getD [])))
theorem xGF:OcOk Tryz.prog ITryz 29 (xvN):=xaL fun c f e=>by
 obtain ⟨l,_⟩:=c
 obtain ⟨a,b⟩:=Prod.mk.inj e
 refine xaI (p:=xjo.pin) (xaK mxTryz (inv0Ok Tryz.prog _) rfl xAT Tryz.func29 rfl (by kernel_rfl) xyH ((xGG _ _ (xab (d:=[]) a)).trans ?_))
 exact congrArg some b
def xEk:Env:=xEj.with 29 xvN
theorem xAl:OrcOk Tryz.prog ITryz xEk:=xAk.with xGF
def xkG:Env:=xEk.fn 27 0 (lsOf []) (lpsOf [])
theorem xGK:OrcOk Tryz.prog (ITryz.at 0) xkG:=xAl.fn
theorem xA0:LoOk Tryz.prog (ITryz.at xkG.pin) xkG (loopAt Tryz.f74 0):=xaq (by kernel_rfl)
def xlj {T:Type} (l:LA) (a:Nat) (i:Int) (b:LA) (δ:T) (κl:(Nat×Int×LA)→T) (κr:(Nat×LA)→T):T:=br (decide (i<l.length)) (br (decide (0≤i)&&decide (i<l.length)) (br (decide (i.toNat<l.length)&&((l.getD i.toNat .top).cells.length==3&&hasShs [Sh.int .i64,Sh.int .i64] (l.getD i.toNat .top).cells 1)) (br (xgI ((l.getD i.toNat .top).cells.getD 1 .top).toInt ((l.getD i.toNat .top).cells.getD 2 .top).toInt) (br (decide (0≤i)&&decide (i<l.length)) (br (decide (i.toNat<l.length)&&hasSh1 (Sh.list 3) ((l.getD i.toNat .top).cells.getD 0 .top)) (br (a==b.length&&(decide ((a+1)*24≤140737488355328)&&decide (a+1≤4611686018427387904))) (κl (a+1,i64.wrap (i+1),b++[AV.list 3 ((l.getD i.toNat .top).cells.getD 0 .top).toList])) δ) δ) δ) (κl (a,i64.wrap (i+1),b))) δ) δ) (κr (a,b))
def xdb (l:LA):(Nat×Int×LA)→Option ((Nat×Int×LA)⊕(Nat×LA)):=fun (b,i,a)=>xlj l b i a none (fun s=>some (.inl s)) (fun p=>some (.inr p))
def xiS (l:LA):(Nat×Int×LA)→LA×List Box:=fun (b,i,a)=>([AV.list 3 l,AV.osl 0 0 0 b,AV.int .i64 i],[⟨0,1,40,a,false,true⟩])
def xhk (l:LA):(Nat×LA)→LR:=fun p=>(.leaf (.exit 0) [AV.osl 0 0 0 p.1] [⟨0,1,40,p.2,false,true⟩])
abbrev xId (a:LA) (H:List Box):=XR Tryz.prog xkG [0,3,4] [3] [(3,1,40)] (loopAt Tryz.f74 0) a H
theorem xIe (l:LA) (s:Nat×Int×LA):Enc (encR (xiS l) (xhk l)) (xdb l s) (xId (xiS l s).1 (xiS l s).2):=by
 obtain ⟨b,i,a⟩:=s
 refine eV (xlj l b i a none (fun s=>some (encR (xiS l) (xhk l) (.inl s))) (fun p=>some (encR (xiS l) (xhk l) (.inr p)))) (by kernel_rfl) ?_;unfold xdb xlj;repeat' first|exact eN|exact eS rfl|apply eB
def xvS:Lp:=lpOf [0,3,4] [3] [(3,1,40)] (pCons (pList 3 pAny) (pCons (pOsl 0 0 0) (pCons (pInt .i64) pNil))) (pCons (pBox 0 1 40 false true pAny) pNil) fun (l,(b,(i,_))) (a,_)=>((Iter (xdb l) (b,i,a)).isSome,xhk l ((Iter (xdb l) (b,i,a)).getD (0,[])))
theorem xE7:LoopOk Tryz.prog (ITryz.at xkG.pin) xkG.nt (loopAt Tryz.f74 0) xvS:=xaP fun d e g f=>by
 obtain ⟨l,⟨b,⟨i,_⟩⟩⟩:=d
 obtain ⟨a,_⟩:=e
 obtain ⟨c,rfl⟩:=Prod.mk.inj f
 exact xar mxTryz (inv0Ok Tryz.prog _) rfl xGK xA0 (xiS l) (xhk l) (fun p=>by simp only [xhk,LR.eval];first|(simp;done)|(repeat' split<;>simp)) (xIe l) (s:=(b,i,a)) (xab c)
def xno:Env:=xEk.fn 27 0 (lsOf []) (lpsOf [(3,xvS)])
theorem xGL:OrcOk Tryz.prog (ITryz.at 0) xno:=xAl.fn
theorem xDJ:LoOk Tryz.prog (ITryz.at xno.pin) xno (Tryz.f74.body.getD .skip):=xaM (ls:=[loopAt Tryz.f74 0]) (by kernel_rfl) (lkC xE7 lkN)
def xuL (l:LA):=(Iter (xdb l) (0,0,[])).getD (0,[])
def xuJ (l:LA):=(xuL l).fst
def xuK (l:LA):=(xuL l).snd
def xuI (l:LA):=xh7 (List.take (xuJ l) (List.drop 0 (xuK l)))
def xse {T:Type} (l:LA) (δ:T) (κ:LA→T):T:=br ((Iter (xdb l) (0,0,[])).isSome) (br (decide (0+xuJ l≤(xuK l).length)&&true) (br ((xuI l).isSome) (κ ((xuI l).getD [])) δ) δ) δ
def xli (l:LA):Option (LA):=xse l none some
theorem xNd (l:LA):Enc (fun (p:LA)=>((AV.list 1 p):AV)) (xli l) (XF Tryz.prog xno Tryz.f74 (Tryz.f74.body.getD .skip) [AV.list 3 l]):=by
 refine eV (xse l none (fun (p:LA)=>some ((AV.list 1 p):AV))) (by kernel_rfl) ?_;unfold xli xse;repeat' first|exact eN|exact eS rfl|apply eB
def xDL:LA→Option (Bool×AV):=ocOf (sCons (sList 3 pAny) sNil) fun (l,_)=>((xli l).isSome,(AV.list 1 ((xli l).getD [])))
theorem xNc:OcOk Tryz.prog ITryz 74 (xDL):=xaL fun c f e=>by
 obtain ⟨l,_⟩:=c
 obtain ⟨a,b⟩:=Prod.mk.inj e
 refine xaI (p:=xno.pin) (xaK mxTryz (inv0Ok Tryz.prog _) rfl xGL Tryz.func74 rfl (by kernel_rfl) xDJ ((xNd _ _ (xab (d:=[]) a)).trans ?_))
 exact congrArg some b
def xOp:Env:=xEk.with 74 xDL
theorem xPo:OrcOk Tryz.prog ITryz xOp:=xAl.with xNc
abbrev EKR1:Env:=xOp
theorem xOq:OrcOk Tryz.prog ITryz EKR1:=xPo
end Go.Sim.M
end
noncomputable section
set_option maxRecDepth 100000
namespace Go.Sim.M
open Go.IntKind (i64 u64 u8)
open Go.RowKit Go.Proofs
def xni:Env:=EKR1.fn 51 1 (lsOf []) (lpsOf [])
theorem xGw:OrcOk Tryz.prog (ITryz.at 1) xni:=xOq.fn
theorem xDe:LoOk Tryz.prog (ITryz.at xni.pin) xni (Tryz.f78.body.getD .skip):=xaq (by kernel_rfl)
def xgh (k:Nat) (a:LA):=(List.take ((i64.wrap ((↑k:Int) - 1)).toNat - 0) (List.drop 0 a)).length
def xqB (k:Nat) (a:LA):=decide (0+(i64.wrap ((↑k:Int) - 1)).toNat<a.length)
def xnk (k:Nat) (a:LA):=((a.getD (0+(i64.wrap ((↑k:Int) - 1)).toNat) .top).cells.getD 1 .top).toInt
def xqC (k:Nat):=decide (0≤i64.wrap ((↑k:Int) - 1))
def xnj (k:Nat):=xqC k&&decide (i64.wrap ((↑k:Int) - 1)<(↑k:Int))
def xqA (k:Nat) (a:LA):=xqB k a&&hasSh1 (Sh.int .i64) ((a.getD (0+(i64.wrap ((↑k:Int) - 1)).toNat) .top).cells.getD 1 .top)
def xoy {T:Type} (k:Nat) (b c:Int) (a:LA) (δ:T) (κ:Bool×(Nat×LA×LA)×(Nat×LA)→T):T:=br (decide ((↑k:Int)>0)) (br (xnj k) (br (xqA k a) (br (decide (xnk k a≥b)) (br (xqC k&&decide (i64.wrap ((↑k:Int) - 1)≤(↑k:Int))&&true) (br (decide (0+((i64.wrap ((↑k:Int) - 1)).toNat - 0)≤a.length)&&(decide (xgh k a*16≤140737488355328)&&decide (xgh k a≤4611686018427387904))) (br (xnj k) (br (xqB k a&&hasSh1 (Sh.int .i64) ((a.getD (0+(i64.wrap ((↑k:Int) - 1)).toNat) .top).cells.getD 0 .top)) (br (xnj k) (br (xqA k a) (br (xgh k a==xgh k a&&(decide ((xgh k a+1)*16≤140737488355328)&&decide (xgh k a+1≤4611686018427387904))) (κ (true,(xgh k a+1,a,List.take ((i64.wrap ((↑k:Int) - 1)).toNat - 0) (List.drop 0 a)++[AV.agg [AV.int .i64 ((a.getD (0+(i64.wrap ((↑k:Int) - 1)).toNat) .top).cells.getD 0 .top).toInt,AV.int .i64 (if c>xnk k a then c else xnk k a)]]),(0,[]))) δ) δ) δ) δ) δ) δ) δ) (br (k==a.length&&(decide ((k+1)*16≤140737488355328)&&decide (k+1≤4611686018427387904))) (κ (false,(0,[],[]),(k+1,a++[AV.agg [AV.int .i64 b,AV.int .i64 c]]))) δ)) δ) δ) (br (k==a.length&&(decide ((k+1)*16≤140737488355328)&&decide (k+1≤4611686018427387904))) (κ (false,(0,[],[]),(k+1,a++[AV.agg [AV.int .i64 b,AV.int .i64 c]]))) δ)
def xds (k:Nat) (a b:Int) (c:LA):Option (Bool×(Nat×LA×LA)×(Nat×LA)):=xoy k a b c none some
theorem xM5 (k:Nat) (a b:Int) (xs:LA):Enc (fun (p:Bool×(Nat×LA×LA)×(Nat×LA))=>((br p.1 ((AV.osl 1 0 0 p.2.1.1,([⟨0,2,31,p.2.1.2.1,false,true⟩,⟨0,2,31,p.2.1.2.2,false,true⟩]:List Box))) ((AV.osl 0 1 0 p.2.2.1,([⟨1,2,31,p.2.2.2,false,true⟩]:List Box)))):(AV×List Box))) (xds k a b xs) (XFM Tryz.prog xni Tryz.f78 (Tryz.f78.body.getD .skip) [AV.osl (0:Id) 0 0 k,AV.agg [AV.int .i64 a,AV.int .i64 b]] [{ ver:=0,sz:=2,ty:=(31:TypeId),xs:=xs,frz:=false,pm:=true }]):=by
 refine eV (xoy k a b xs none (fun (p:Bool×(Nat×LA×LA)×(Nat×LA))=>some ((br p.1 ((AV.osl 1 0 0 p.2.1.1,([⟨0,2,31,p.2.1.2.1,false,true⟩,⟨0,2,31,p.2.1.2.2,false,true⟩]:List Box))) ((AV.osl 0 1 0 p.2.2.1,([⟨1,2,31,p.2.2.2,false,true⟩]:List Box)))):(AV×List Box)))) (by kernel_rfl) ?_;unfold xds xoy;repeat' first|exact eN|exact eS rfl|apply eB
def xDf:LA→List Box→Option (Bool×AV×List Box):=omOf (sCons (sEq (pOsl 0 0 0)) (sCons (sAgg (sCons (sEq (pInt .i64)) (sCons (sEq (pInt .i64)) sNil))) sNil)) (pCons (pBox 0 2 (31:TypeId) false true pAny) pNil) fun (k,((a,(b,_)),_)) (c,_)=>((xds k a b c).isSome,(AV.osl 1 0 0 (br ((xds k a b c).getD (false,(0,[],[]),(0,[]))).1 ((xds k a b c).getD (false,(0,[],[]),(0,[]))).2.1.1 ((xds k a b c).getD (false,(0,[],[]),(0,[]))).2.2.1),
 ([⟨2,2,31,[],false,true⟩,⟨0,2,31,br ((xds k a b c).getD (false,(0,[],[]),(0,[]))).1 ((xds k a b c).getD (false,(0,[],[]),(0,[]))).2.1.2.2 ((xds k a b c).getD (false,(0,[],[]),(0,[]))).2.2.2,false,true⟩]:List Box)))
theorem xM4:OmOk Tryz.prog ITryz 78 (xDf):=xfA fun e f j h g=>by
 obtain ⟨k,⟨⟨c,⟨i,_⟩⟩,_⟩⟩:=e
 obtain ⟨l,_⟩:=f
 obtain ⟨b,a⟩:=Prod.mk.inj g
 have hx:=xM5 _ _ _ _ _ (xab (d:=(false,(0,[],[]),(0,[]))) b)
 revert hx a
 generalize ((xds _ _ _ _).getD (false,(0,[],[]),(0,[])))=p
 intro a hx
 obtain ⟨rfl,rfl⟩:=Prod.mk.inj a
 obtain ⟨t,⟨m,n,o⟩,q,r⟩:=p
 have hg:GoodM Tryz.prog ITryz 78 _ _ _ _:=xdr (p:=xni.pin) (xdI mxTryz (inv0Ok Tryz.prog _) rfl xGw rfl Tryz.func78 rfl (by kernel_rfl) xDe hx)
 cases t
 · exact GoodM.move0 rfl (by decide) hg
 · exact GoodM.drop0 rfl (by decide) hg
def xTh:Env:=EKR1.withM 78 xDf
theorem xSa:OrcOk Tryz.prog ITryz xTh:=xOq.withM xM4
abbrev EKJ:Env:=xTh
theorem xGx:OrcOk Tryz.prog ITryz EKJ:=xSa
end Go.Sim.M
end
noncomputable section
set_option maxRecDepth 100000
namespace Go.Sim.M
open Go.IntKind (i64 u64 u8)
open Go.RowKit Go.Proofs
def xiG:Env:=EKJ.fn 58 0 (lsOf []) (lpsOf [])
theorem xDb:OrcOk Tryz.prog (ITryz.at 0) xiG:=xGx.fn
theorem xyw:LoOk Tryz.prog (ITryz.at xiG.pin) xiG (loopAt Tryz.f57 0):=xaq (by kernel_rfl)
def xg9 {T:Type} (l:LA) (n:Int) (a:Nat) (i:Int) (b:LA) (δ:T) (κl:(Nat×Int×LA)→T) (κr:(Nat×Int×LA)→T):T:=br (decide (i<l.length)) (br (decide (0≤i)&&decide (i<l.length)) (br (decide (i.toNat<l.length)&&hasSh1 (Sh.int .i64) ((l.getD i.toNat .top).cells.getD 0 .top)) (br (decide (((l.getD i.toNat .top).cells.getD 0 .top).toInt<n)) (br (decide (0≤i)&&decide (i<l.length)) (br (decide (i.toNat<l.length)&&hasSh1 (Sh.int .i64) ((l.getD i.toNat .top).cells.getD 0 .top)) (br (a==b.length&&(decide ((a+1)*8≤140737488355328)&&decide (a+1≤4611686018427387904))) (κl (a+1,i64.wrap (i+1),b++[AV.int .i64 ((l.getD i.toNat .top).cells.getD 0 .top).toInt])) δ) δ) δ) (κr (a,i,b))) δ) δ) (κr (a,i,b))
def xbT (l:LA) (n:Int):(Nat×Int×LA)→Option ((Nat×Int×LA)⊕(Nat×Int×LA)):=fun (b,i,a)=>xg9 l n b i a none (fun s=>some (.inl s)) (fun p=>some (.inr p))
def xg8 (l:LA) (n:Int):(Nat×Int×LA)→LA×List Box:=fun (b,i,a)=>([AV.list 1 l,AV.int .i64 n,AV.osl 0 0 0 b,AV.int .i64 i],[⟨0,1,3,a,false,true⟩])
def xfB (l:LA) (n:Int):(Nat×Int×LA)→LR:=fun p=>(.leaf (.exit 0) [AV.list 1 l,AV.int .i64 n,AV.osl 0 0 0 p.1,AV.int .i64 p.2.1] [⟨0,1,3,p.2.2,false,true⟩])
abbrev xEE (a:LA) (H:List Box):=XR Tryz.prog xiG [0,1,5,6] [0,1,5,6] [(5,1,3)] (loopAt Tryz.f57 0) a H
theorem xEF (l:LA) (n:Int) (s:Nat×Int×LA):Enc (encR (xg8 l n) (xfB l n)) (xbT l n s) (xEE (xg8 l n s).1 (xg8 l n s).2):=by
 obtain ⟨b,i,a⟩:=s
 refine eV (xg9 l n b i a none (fun s=>some (encR (xg8 l n) (xfB l n) (.inl s))) (fun p=>some (encR (xg8 l n) (xfB l n) (.inr p)))) (by kernel_rfl) ?_;unfold xbT xg9;repeat' first|exact eN|exact eS rfl|apply eB
def xow:Lp:=lpOf [0,1,5,6] [0,1,5,6] [(5,1,3)] (pCons (pList 1 pAny) (pCons (pInt .i64) (pCons (pOsl 0 0 0) (pCons (pInt .i64) pNil)))) (pCons (pBox 0 1 3 false true pAny) pNil) fun (l,(n,(b,(i,_)))) (a,_)=>((Iter (xbT l n) (b,i,a)).isSome,xfB l n ((Iter (xbT l n) (b,i,a)).getD (0,0,[])))
theorem xBM:LoopOk Tryz.prog (ITryz.at xiG.pin) xiG.nt (loopAt Tryz.f57 0) xow:=xaP fun d e g f=>by
 obtain ⟨l,⟨n,⟨b,⟨i,_⟩⟩⟩⟩:=d
 obtain ⟨a,_⟩:=e
 obtain ⟨c,rfl⟩:=Prod.mk.inj f
 exact xar mxTryz (inv0Ok Tryz.prog _) rfl xDb xyw (xg8 l n) (xfB l n) (fun p=>by simp only [xfB,LR.eval];first|(simp;done)|(repeat' split<;>simp)) (xEF l n) (s:=(b,i,a)) (xab c)
def xiH:Env:=EKJ.fn 58 0 (lsOf []) (lpsOf [(3,xow)])
theorem xDc:OrcOk Tryz.prog (ITryz.at 0) xiH:=xGx.fn
theorem xyy:LoOk Tryz.prog (ITryz.at xiH.pin) xiH (loopAt Tryz.f57 1):=xaq (by kernel_rfl)
def xjk {T:Type} (l:LA) (a:Nat) (i:Int) (b:LA) (δ:T) (κl:(Nat×Int×LA)→T) (κr:(Nat×LA)→T):T:=br (decide (i<l.length)) (br (decide (0≤i)&&decide (i<l.length)) (br (decide (i.toNat<l.length)&&hasSh1 (Sh.int .i64) ((l.getD i.toNat .top).cells.getD 0 .top)) (br (a==b.length&&(decide ((a+1)*8≤140737488355328)&&decide (a+1≤4611686018427387904))) (κl (a+1,i64.wrap (i+1),b++[AV.int .i64 ((l.getD i.toNat .top).cells.getD 0 .top).toInt])) δ) δ) δ) (κr (a,b))
def xbU (l:LA):(Nat×Int×LA)→Option ((Nat×Int×LA)⊕(Nat×LA)):=fun (b,i,a)=>xjk l b i a none (fun s=>some (.inl s)) (fun p=>some (.inr p))
def xha (l:LA):(Nat×Int×LA)→LA×List Box:=fun (b,i,a)=>([AV.list 1 l,AV.osl 0 0 0 b,AV.int .i64 i],[⟨0,1,3,a,false,true⟩])
def xfC (l:LA):(Nat×LA)→LR:=fun p=>(.leaf (.exit 2) [AV.osl 0 0 0 p.1] [⟨0,1,3,p.2,false,true⟩])
abbrev xEG (a:LA) (H:List Box):=XR Tryz.prog xiH [0,5,6] [5] [(5,1,3)] (loopAt Tryz.f57 1) a H
theorem xEH (l:LA) (s:Nat×Int×LA):Enc (encR (xha l) (xfC l)) (xbU l s) (xEG (xha l s).1 (xha l s).2):=by
 obtain ⟨b,i,a⟩:=s
 refine eV (xjk l b i a none (fun s=>some (encR (xha l) (xfC l) (.inl s))) (fun p=>some (encR (xha l) (xfC l) (.inr p)))) (by kernel_rfl) ?_;unfold xbU xjk;repeat' first|exact eN|exact eS rfl|apply eB
def xtY:Lp:=lpOf [0,5,6] [5] [(5,1,3)] (pCons (pList 1 pAny) (pCons (pOsl 0 0 0) (pCons (pInt .i64) pNil))) (pCons (pBox 0 1 3 false true pAny) pNil) fun (l,(b,(i,_))) (a,_)=>((Iter (xbU l) (b,i,a)).isSome,xfC l ((Iter (xbU l) (b,i,a)).getD (0,[])))
theorem xBN:LoopOk Tryz.prog (ITryz.at xiH.pin) xiH.nt (loopAt Tryz.f57 1) xtY:=xaP fun d e g f=>by
 obtain ⟨l,⟨b,⟨i,_⟩⟩⟩:=d
 obtain ⟨a,_⟩:=e
 obtain ⟨c,rfl⟩:=Prod.mk.inj f
 exact xar mxTryz (inv0Ok Tryz.prog _) rfl xDc xyy (xha l) (xfC l) (fun p=>by simp only [xfC,LR.eval];first|(simp;done)|(repeat' split<;>simp)) (xEH l) (s:=(b,i,a)) (xab c)
def xk4:Env:=EKJ.fn 58 0 (lsOf []) (lpsOf [(3,xow),(8,xtY)])
theorem xDd:OrcOk Tryz.prog (ITryz.at 0) xk4:=xGx.fn
theorem xAL:LoOk Tryz.prog (ITryz.at xk4.pin) xk4 (Tryz.f57.body.getD .skip):=xaM (ls:=[loopAt Tryz.f57 0,loopAt Tryz.f57 1]) (by kernel_rfl) (lkC xBM (lkC xBN lkN))
def xj9 (l:LA) (n:Int):=(Iter (xbT l n) (0,0,[])).getD (0,0,[])
def xh1 (l:LA) (n:Int):=(xj9 l n).fst
def xj8 (l:LA) (n:Int):=(xj9 l n).snd
def xc9 (l:LA) (n:Int):=(xj8 l n).fst
def xeP (l:LA) (n:Int):=xh1 l n+1
def xh0 (l:LA) (n:Int):=(xj8 l n).snd
def xk7 (l:LA) (n:Int):=Iter (xbU l) (xeP l n,xc9 l n,xh0 l n++[AV.int .i64 n])
def xlb (l:LA) (n:Int):=Iter (xbU l) (xh1 l n,xc9 l n,xh0 l n)
def xj7 (l:LA) (n:Int):=xh1 l n==(xh0 l n).length
def xk5 (l:LA) (n:Int):=(xk7 l n).getD (0,[])
def xk6 (l:LA) (n:Int):=(xk7 l n).isSome
def xla (l:LA) (n:Int):=(xlb l n).getD (0,[])
def xgQ (l:LA) (n:Int):=(xk5 l n).fst
def xgR (l:LA) (n:Int):=(xk5 l n).snd
def xk8 (l:LA) (n:Int):=(xla l n).fst
def xk9 (l:LA) (n:Int):=(xla l n).snd
def xpk {T:Type} (l:LA) (n:Int) (δ:T) (κ:LA→T):T:=br ((Iter (xbT l n) (0,0,[])).isSome) (br (xc9 l n==(↑l.length:Int)) (br (xj7 l n&&(decide (xeP l n*8≤140737488355328)&&decide (xeP l n≤4611686018427387904))) (br (xk6 l n) (br (decide (0+xgQ l n≤(xgR l n).length)&&true) (κ (List.take (xgQ l n) (List.drop 0 (xgR l n)))) δ) δ) δ) (br (decide (0≤xc9 l n)&&decide (xc9 l n<l.length)) (br (decide ((xc9 l n).toNat<l.length)&&hasSh1 (Sh.int .i64) ((l.getD (xc9 l n).toNat .top).cells.getD 0 .top)) (br (decide (((l.getD (xc9 l n).toNat .top).cells.getD 0 .top).toInt>n)) (br (xj7 l n&&(decide (xeP l n*8≤140737488355328)&&decide (xeP l n≤4611686018427387904))) (br (xk6 l n) (br (decide (0+xgQ l n≤(xgR l n).length)&&true) (κ (List.take (xgQ l n) (List.drop 0 (xgR l n)))) δ) δ) δ) (br ((xlb l n).isSome) (br (decide (0+xk8 l n≤(xk9 l n).length)&&true) (κ (List.take (xk8 l n) (List.drop 0 (xk9 l n)))) δ) δ)) δ) δ)) δ
def xb6 (l:LA) (n:Int):Option (LA):=xpk l n none some
theorem xJm (l:LA) (n:Int):Enc (fun (p:LA)=>((AV.list 1 p):AV)) (xb6 l n) (XF Tryz.prog xk4 Tryz.f57 (Tryz.f57.body.getD .skip) [AV.list 1 l,AV.int .i64 n]):=by
 refine eV (xpk l n none (fun (p:LA)=>some ((AV.list 1 p):AV))) (by kernel_rfl) ?_;unfold xb6 xpk;repeat' first|exact eN|exact eS rfl|apply eB
def xzJ:LA→Option (Bool×AV):=ocOf (sCons (sList 1 pAny) (sCons (sEq (pInt .i64)) sNil)) fun (l,(n,_))=>((xb6 l n).isSome,(AV.list 1 ((xb6 l n).getD [])))
theorem xJl:OcOk Tryz.prog ITryz 57 (xzJ):=xaL fun c f e=>by
 obtain ⟨l,⟨n,_⟩⟩:=c
 obtain ⟨a,b⟩:=Prod.mk.inj e
 refine xaI (p:=xk4.pin) (xaK mxTryz (inv0Ok Tryz.prog _) rfl xDd Tryz.func57 rfl (by kernel_rfl) xAL ((xJm _ _ _ (xab (d:=[]) a)).trans ?_))
 exact congrArg some b
def xG8:Env:=EKJ.with 57 xzJ
theorem xCr:OrcOk Tryz.prog ITryz xG8:=xGx.with xJl
def xhb:Env:=xG8.fn 26 0 (lsOf []) (lpsOf [])
theorem xAM:OrcOk Tryz.prog (ITryz.at 0) xhb:=xCr.fn
theorem xvK:LoOk Tryz.prog (ITryz.at xhb.pin) xhb (loopAt Tryz.f20 0):=xaq (by kernel_rfl)
def xhQ {T:Type} (a b:LA) (i:Int) (δ:T) (κl:(Int)→T) (κr:(Bool×(Bool)×(Unit))→T):T:=br (decide (i<a.length)) (br (decide (0≤i)&&decide (i<a.length)) (br (decide (i.toNat<a.length)&&hasSh1 (Sh.int .i64) ((a.getD i.toNat .top).cells.getD 0 .top)) (br (decide (0≤i)&&decide (i<b.length)) (br (decide (i.toNat<b.length)&&hasSh1 (Sh.int .i64) ((b.getD i.toNat .top).cells.getD 0 .top)) (br (((a.getD i.toNat .top).cells.getD 0 .top).toInt != ((b.getD i.toNat .top).cells.getD 0 .top).toInt) (κr (true,(false),())) (κl (i64.wrap (i+1)))) δ) δ) δ) δ) (κr (false,false,()))
def xbt (a b:LA):(Int)→Option ((Int)⊕(Bool×(Bool)×(Unit))):=fun (i)=>xhQ a b i none (fun s=>some (.inl s)) (fun p=>some (.inr p))
def xfD (a b:LA):(Int)→LA×List Box:=fun (i)=>([AV.list 1 a,AV.list 1 b,AV.int .i64 i],[])
def xeA (a b:LA):(Bool×(Bool)×(Unit))→LR:=fun p=>(.node p.1 (.leaf .ret [AV.bool p.2.1] []) (.leaf (.exit 0) [.top] []))
abbrev xBO (a:LA) (H:List Box):=XR Tryz.prog xhb [0,1,5] [4] [] (loopAt Tryz.f20 0) a H
theorem xBP (a b:LA) (i:Int):Enc (encR (xfD a b) (xeA a b)) (xbt a b i) (xBO (xfD a b i).1 (xfD a b i).2):=by
 refine eV (xhQ a b i none (fun s=>some (encR (xfD a b) (xeA a b) (.inl s))) (fun p=>some (encR (xfD a b) (xeA a b) (.inr p)))) (by kernel_rfl) ?_;unfold xbt xhQ;repeat' first|exact eN|exact eS rfl|apply eB
def xrW:Lp:=lpOf [0,1,5] [4] [] (pCons (pList 1 pAny) (pCons (pList 1 pAny) (pCons (pInt .i64) pNil))) pNil fun (a,(b,(i,_))) _=>((Iter (xbt a b) (i)).isSome,xeA a b ((Iter (xbt a b) (i)).getD (false,false,())))
theorem xzK:LoopOk Tryz.prog (ITryz.at xhb.pin) xhb.nt (loopAt Tryz.f20 0) xrW:=xaP fun d f g e=>by
 obtain ⟨a,⟨b,⟨i,_⟩⟩⟩:=d
 obtain ⟨c,rfl⟩:=Prod.mk.inj e
 exact xar mxTryz (inv0Ok Tryz.prog _) rfl xAM xvK (xfD a b) (xeA a b) (fun p=>by simp only [xeA,LR.eval];first|(simp;done)|(repeat' split<;>simp)) (xBP a b) (s:=(i)) (xab c)
def xjl:Env:=xG8.fn 26 0 (lsOf []) (lpsOf [(4,xrW)])
theorem xAN:OrcOk Tryz.prog (ITryz.at 0) xjl:=xCr.fn
theorem xyz:LoOk Tryz.prog (ITryz.at xjl.pin) xjl (Tryz.f20.body.getD .skip):=xaM (ls:=[loopAt Tryz.f20 0]) (by kernel_rfl) (lkC xzK lkN)
def xm4 {T:Type} (a b:LA) (δ:T) (κ:Bool→T):T:=br ((↑a.length:Int) != (↑b.length:Int)) (κ (false)) (br ((Iter (xbt a b) 0).isSome) (br (((Iter (xbt a b) 0).getD (false,false,())).fst) (κ (((Iter (xbt a b) 0).getD (false,false,())).snd.fst)) (κ (true))) δ)
def xgw (a b:LA):Option (Bool):=xm4 a b none some
theorem xGz (a b:LA):Enc (fun (p:Bool)=>((AV.bool p):AV)) (xgw a b) (XF Tryz.prog xjl Tryz.f20 (Tryz.f20.body.getD .skip) [AV.list 1 a,AV.list 1 b]):=by
 refine eV (xm4 a b none (fun (p:Bool)=>some ((AV.bool p):AV))) (by kernel_rfl) ?_;unfold xgw xm4;repeat' first|exact eN|exact eS rfl|apply eB
def xvL:LA→Option (Bool×AV):=ocOf (sCons (sList 1 pAny) (sCons (sList 1 pAny) sNil)) fun (a,(b,_))=>((xgw a b).isSome,(AV.bool ((xgw a b).getD false)))
theorem xGy:OcOk Tryz.prog ITryz 20 (xvL):=xaL fun f h g=>by
 obtain ⟨a,⟨b,_⟩⟩:=f
 obtain ⟨c,e⟩:=Prod.mk.inj g
 refine xaI (p:=xjl.pin) (xaK mxTryz (inv0Ok Tryz.prog _) rfl xAN Tryz.func20 rfl (by kernel_rfl) xyz ((xGz _ _ _ (xab (d:=false) c)).trans ?_))
 exact congrArg some e
def xMf:Env:=xG8.with 20 xvL
theorem xKo:OrcOk Tryz.prog ITryz xMf:=xCr.with xGy
def xoA:Env:=xMf.fn 28 1 (lsOf []) (lpsOf [])
theorem xH3:OrcOk Tryz.prog (ITryz.at 1) xoA:=xKo.fn
theorem xEO:LoOk Tryz.prog (ITryz.at xoA.pin) xoA (Tryz.f90.body.getD .skip):=xaq (by kernel_rfl)
def xnz {T:Type} (k:Nat) (b n:Int) (a:LA) (δ:T) (κ:Bool×(Nat×LA)×(Nat×LA)→T):T:=br (decide ((↑k:Int)>0)) (br (decide (0≤i64.wrap ((↑k:Int) - 1))&&decide (i64.wrap ((↑k:Int) - 1)<(↑k:Int))) (br (decide (0+(i64.wrap ((↑k:Int) - 1)).toNat<a.length)&&hasSh1 (Sh.int .i64) ((a.getD (0+(i64.wrap ((↑k:Int) - 1)).toNat) .top).cells.getD 1 .top)) (br (((a.getD (0+(i64.wrap ((↑k:Int) - 1)).toNat) .top).cells.getD 1 .top).toInt==n) (κ (true,(k,a),(0,[]))) (br (k==a.length&&(decide ((k+1)*16≤140737488355328)&&decide (k+1≤4611686018427387904))) (κ (false,(0,[]),(k+1,a++[AV.agg [AV.int .i64 b,AV.int .i64 n]]))) δ)) δ) δ) (br (k==a.length&&(decide ((k+1)*16≤140737488355328)&&decide (k+1≤4611686018427387904))) (κ (false,(0,[]),(k+1,a++[AV.agg [AV.int .i64 b,AV.int .i64 n]]))) δ)
def xeQ (k:Nat) (a n:Int) (b:LA):Option (Bool×(Nat×LA)×(Nat×LA)):=xnz k a n b none some
theorem xNY (k:Nat) (a n:Int) (xs:LA):Enc (fun (p:Bool×(Nat×LA)×(Nat×LA))=>((br p.1 ((AV.osl 0 0 0 p.2.1.1,([⟨0,2,75,p.2.1.2,false,true⟩]:List Box))) ((AV.osl 0 1 0 p.2.2.1,([⟨1,2,75,p.2.2.2,false,true⟩]:List Box)))):(AV×List Box))) (xeQ k a n xs) (XFM Tryz.prog xoA Tryz.f90 (Tryz.f90.body.getD .skip) [AV.osl (0:Id) 0 0 k,AV.int .i64 a,AV.int .i64 n] [{ ver:=0,sz:=2,ty:=(75:TypeId),xs:=xs,frz:=false,pm:=true }]):=by
 refine eV (xnz k a n xs none (fun (p:Bool×(Nat×LA)×(Nat×LA))=>some ((br p.1 ((AV.osl 0 0 0 p.2.1.1,([⟨0,2,75,p.2.1.2,false,true⟩]:List Box))) ((AV.osl 0 1 0 p.2.2.1,([⟨1,2,75,p.2.2.2,false,true⟩]:List Box)))):(AV×List Box)))) (by kernel_rfl) ?_;unfold xeQ xnz;repeat' first|exact eN|exact eS rfl|apply eB
def xFN:LA→List Box→Option (Bool×AV×List Box):=omOf (sCons (sEq (pOsl 0 0 0)) (sCons (sEq (pInt .i64)) (sCons (sEq (pInt .i64)) sNil))) (pCons (pBox 0 2 (75:TypeId) false true pAny) pNil) fun (k,(a,(n,_))) (b,_)=>((xeQ k a n b).isSome,(AV.osl 0 1 0 (br ((xeQ k a n b).getD (false,(0,[]),(0,[]))).1 ((xeQ k a n b).getD (false,(0,[]),(0,[]))).2.1.1 ((xeQ k a n b).getD (false,(0,[]),(0,[]))).2.2.1),([⟨1,2,75,(br ((xeQ k a n b).getD (false,(0,[]),(0,[]))).1 ((xeQ k a n b).getD (false,(0,[]),(0,[]))).2.1.2 ((xeQ k a n b).getD (false,(0,[]),(0,[]))).2.2.2),false,true⟩]:List Box)))
theorem xNX:OmOk Tryz.prog ITryz 90 (xFN):=xfA fun e f j i g=>by
 obtain ⟨k,⟨b,⟨n,_⟩⟩⟩:=e
 obtain ⟨h,_⟩:=f
 obtain ⟨c,a⟩:=Prod.mk.inj g
 have hx:=xNY _ _ _ _ _ (xab (d:=(false,(0,[]),(0,[]))) c)
 revert hx a
 generalize ((xeQ k b n h).getD (false,(0,[]),(0,[])))=p
 intro a hx
 obtain ⟨rfl,rfl⟩:=Prod.mk.inj a
 obtain ⟨t,⟨l,m⟩,o,q⟩:=p
 have hg:GoodM Tryz.prog ITryz 90 _ _ _ _:=xdr (p:=xoA.pin) (xdI mxTryz (inv0Ok Tryz.prog _) rfl xH3 rfl Tryz.func90 rfl (by kernel_rfl) xEO hx)
 cases t
 · exact hg
 · exact GoodM.bump1 rfl (by decide) hg
def xzc:Env:=xMf.withM 90 xFN
theorem xtO:OrcOk Tryz.prog ITryz xzc:=xKo.withM xNX
def xnv:Env:=xzc.fn 82 0 (lsOf []) (lpsOf [])
theorem xJp:OrcOk Tryz.prog (ITryz.at 0) xnv:=xtO.fn
theorem xDl:LoOk Tryz.prog (ITryz.at xnv.pin) xnv (loopAt Tryz.f66 0):=xaq (by kernel_rfl)
def xme (l:LA) (i:Int):=decide (0≤i)&&decide (i<l.length)
def xnl {T:Type} (l a:LA) (i:Int) (δ:T) (κl:(LA×Int)→T) (κr:(LA)→T):T:=br (decide (i<l.length)) (br (xme l i) (br (decide (i.toNat<l.length)&&((l.getD i.toNat .top).cells.length==3&&hasShs [Sh.int .i64,Sh.int .i64] (l.getD i.toNat .top).cells 0)) (br (xgI ((l.getD i.toNat .top).cells.getD 0 .top).toInt ((l.getD i.toNat .top).cells.getD 1 .top).toInt) (br (xme l i) (br (decide (i.toNat<l.length)&&hasSh1 (Sh.int .i64) ((l.getD i.toNat .top).cells.getD 0 .top)) (br ((xb6 a ((l.getD i.toNat .top).cells.getD 0 .top).toInt).isSome) (br (xme l i) (br (decide (i.toNat<l.length)&&hasSh1 (Sh.int .i64) ((l.getD i.toNat .top).cells.getD 1 .top)) (br ((xb6 ((xb6 a ((l.getD i.toNat .top).cells.getD 0 .top).toInt).getD []) ((l.getD i.toNat .top).cells.getD 1 .top).toInt).isSome) (κl ((xb6 ((xb6 a ((l.getD i.toNat .top).cells.getD 0 .top).toInt).getD []) ((l.getD i.toNat .top).cells.getD 1 .top).toInt).getD [],i64.wrap (i+1))) δ) δ) δ) δ) δ) δ) (κl (a,i64.wrap (i+1)))) δ) δ) (κr (a))
def xdT (l:LA):(LA×Int)→Option ((LA×Int)⊕(LA)):=fun (a,i)=>xnl l a i none (fun s=>some (.inl s)) (fun p=>some (.inr p))
def xkA (l:LA):(LA×Int)→LA×List Box:=fun (a,i)=>([AV.list 3 l,AV.list 1 a,AV.int .i64 i],[])
def xiK (l:LA):(LA)→LR:=fun p=>(.leaf (.exit 0) [AV.list 3 l,AV.list 1 p] [])
abbrev xLi (a:LA) (H:List Box):=XR Tryz.prog xnv [0,3,4] [0,3] [(3,1,1073741824)] (loopAt Tryz.f66 0) a H
theorem xLj (l:LA) (s:LA×Int):Enc (encR (xkA l) (xiK l)) (xdT l s) (xLi (xkA l s).1 (xkA l s).2):=by
 obtain ⟨a,i⟩:=s
 refine eV (xnl l a i none (fun s=>some (encR (xkA l) (xiK l) (.inl s))) (fun p=>some (encR (xkA l) (xiK l) (.inr p)))) (by kernel_rfl) ?_;unfold xdT xnl;repeat' first|exact eN|exact eS rfl|apply eB
def xpm:Lp:=lpOf [0,3,4] [0,3] [(3,1,1073741824)] (pCons (pList 3 pAny) (pCons (pList 1 pAny) (pCons (pInt .i64) pNil))) pNil fun (l,(a,(i,_))) _=>((Iter (xdT l) (a,i)).isSome,xiK l ((Iter (xdT l) (a,i)).getD []))
theorem xH0:LoopOk Tryz.prog (ITryz.at xnv.pin) xnv.nt (loopAt Tryz.f66 0) xpm:=xaP fun b e f c=>by
 obtain ⟨l,⟨d,⟨i,_⟩⟩⟩:=b
 obtain ⟨a,rfl⟩:=Prod.mk.inj c
 exact xar mxTryz (inv0Ok Tryz.prog _) rfl xJp xDl (xkA l) (xiK l) (fun p=>by simp only [xiK,LR.eval];first|(simp;done)|(repeat' split<;>simp)) (xLj l) (s:=(d,i)) (xab a)
def xnw:Env:=xzc.fn 82 0 (lsOf []) (lpsOf [(3,xpm)])
theorem xJq:OrcOk Tryz.prog (ITryz.at 0) xnw:=xtO.fn
theorem xDm:LoOk Tryz.prog (ITryz.at xnw.pin) xnw (loopAt Tryz.f66 2):=xaq (by kernel_rfl)
def xnm {T:Type} (l b:LA) (c:Nat) (k n i:Int) (a:LA) (δ:T) (κl:(Int×Int×LA)→T) (κr:(Int×LA)→T):T:=br (decide (i<l.length)) (br (decide (0≤i)&&decide (i<l.length)) (br (decide (i.toNat<l.length)&&((l.getD i.toNat .top).cells.length==3&&hasShs [Sh.int .i64,Sh.int .i64] (l.getD i.toNat .top).cells 0)) (br (decide (0≤k)&&decide (k<b.length)) (br (decide (k.toNat<b.length)&&hasSh1 (Sh.int .i64) ((b.getD k.toNat .top).cells.getD 0 .top)) (br (xjX ((l.getD i.toNat .top).cells.getD 0 .top).toInt ((l.getD i.toNat .top).cells.getD 1 .top).toInt ((b.getD k.toNat .top).cells.getD 0 .top).toInt) (br (decide (0≤i)&&decide (i<l.length)) (br (decide (i.toNat<l.length)&&hasSh1 (Sh.int .i64) ((l.getD i.toNat .top).cells.getD 2 .top)) (κl (i64.wrap (n+((l.getD i.toNat .top).cells.getD 2 .top).toInt),i64.wrap (i+1),a)) δ) δ) (κl (n,i64.wrap (i+1),a))) δ) δ) δ) δ) (κr (n,a))
def xdV (l c:LA) (b:Nat) (k:Int):(Int×Int×LA)→Option ((Int×Int×LA)⊕(Int×LA)):=fun (n,i,a)=>xnm l c b k n i a none (fun s=>some (.inl s)) (fun p=>some (.inr p))
def xkD (l c:LA) (b:Nat) (k:Int):(Int×Int×LA)→LA×List Box:=fun (n,i,a)=>([AV.list 3 l,AV.list 1 c,AV.osl 0 0 0 b,AV.int .i64 k,AV.int .i64 n,AV.int .i64 i],[⟨0,2,75,a,false,true⟩])
def xiM (l b:LA) (a:Nat) (k:Int):(Int×LA)→LR:=fun p=>(.leaf (.exit 4) [AV.list 3 l,AV.list 1 b,AV.osl 0 0 0 a,AV.int .i64 k,AV.int .i64 p.1] [⟨0,2,75,p.2,false,true⟩])
abbrev xLm (a:LA) (H:List Box):=XR Tryz.prog xnw [0,3,5,6,7,8] [0,3,5,6,7] [(5,2,75),(3,1,1073741824)] (loopAt Tryz.f66 2) a H
theorem xLn (l b:LA) (a:Nat) (k:Int) (s:Int×Int×LA):Enc (encR (xkD l b a k) (xiM l b a k)) (xdV l b a k s) (xLm (xkD l b a k s).1 (xkD l b a k s).2):=by
 obtain ⟨n,i,c⟩:=s
 refine eV (xnm l b a k n i c none (fun s=>some (encR (xkD l b a k) (xiM l b a k) (.inl s))) (fun p=>some (encR (xkD l b a k) (xiM l b a k) (.inr p)))) (by kernel_rfl) ?_;unfold xdV xnm;repeat' first|exact eN|exact eS rfl|apply eB
def xtl:Lp:=lpOf [0,3,5,6,7,8] [0,3,5,6,7] [(5,2,75),(3,1,1073741824)] (pCons (pList 3 pAny) (pCons (pList 1 pAny) (pCons (pOsl 0 0 0) (pCons (pInt .i64) (pCons (pInt .i64) (pCons (pInt .i64) pNil)))))) (pCons (pBox 0 2 75 false true pAny) pNil) fun (l,(c,(a,(k,(n,(i,_)))))) (b,_)=>((Iter (xdV l c a k) (n,i,b)).isSome,xiM l c a k ((Iter (xdV l c a k) (n,i,b)).getD (0,[])))
theorem xwP:LoopOk Tryz.prog (ITryz.at xnw.pin) xnw.nt (loopAt Tryz.f66 2) xtl:=xaP fun e f h g=>by
 obtain ⟨l,⟨c,⟨a,⟨k,⟨n,⟨i,_⟩⟩⟩⟩⟩⟩:=e
 obtain ⟨b,_⟩:=f
 obtain ⟨d,rfl⟩:=Prod.mk.inj g
 exact xar mxTryz (inv0Ok Tryz.prog _) rfl xJq xDm (xkD l c a k) (xiM l c a k) (fun p=>by simp only [xiM,LR.eval];first|(simp;done)|(repeat' split<;>simp)) (xLn l c a k) (s:=(n,i,b)) (xab d)
def xny:Env:=xzc.fn 82 0 (lsOf []) (lpsOf [(3,xpm),(14,xtl)])
theorem xJr:OrcOk Tryz.prog (ITryz.at 0) xny:=xtO.fn
theorem xDn:LoOk Tryz.prog (ITryz.at xny.pin) xny (loopAt Tryz.f66 1):=xaM (ls:=[loopAt Tryz.f66 2]) (by kernel_rfl) (lkC xwP lkN)
def xml (l c:LA) (b:Nat) (k:Int) (a:LA):=(Iter (xdV l c b k) (0,0,a)).getD (0,[])
def xmk (l c:LA) (a:Nat) (k:Int) (b:LA):=xeQ a ((c.getD k.toNat .top).cells.getD 0 .top).toInt (xml l c a k b).fst (xml l c a k b).snd
def xmj (l c:LA) (b:Nat) (k:Int) (a:LA):=(xmk l c b k a).getD (false,(0,[]),0,[])
def xmh (l c:LA) (b:Nat) (k:Int) (a:LA):=(xmj l c b k a).snd
def xmi (l c:LA) (b:Nat) (k:Int) (a:LA):=(xmj l c b k a).fst
def xmf (l c:LA) (b:Nat) (k:Int) (a:LA):=(xmh l c b k a).fst
def xmg (l c:LA) (b:Nat) (k:Int) (a:LA):=(xmh l c b k a).snd
def xkC {T:Type} (l c:LA) (b:Nat) (k:Int) (a:LA) (δ:T) (κl:(Nat×Int×LA)→T) (κr:(Nat×LA)→T):T:=br (decide (k<c.length)) (br (decide (0≤k)&&decide (k<c.length)) (br (decide (k.toNat<c.length)&&hasSh1 (Sh.int .i64) ((c.getD k.toNat .top).cells.getD 0 .top)) (br (decide (((c.getD k.toNat .top).cells.getD 0 .top).toInt<1099511627776)) (br ((Iter (xdV l c b k) (0,0,a)).isSome) (br (decide (0≤k)&&decide (k<c.length)) (br (decide (k.toNat<c.length)&&hasSh1 (Sh.int .i64) ((c.getD k.toNat .top).cells.getD 0 .top)) (br ((xmk l c b k a).isSome) (κl (br (xmi l c b k a) (xmf l c b k a).fst (xmg l c b k a).fst,i64.wrap (k+1),br (xmi l c b k a) (xmf l c b k a).snd (xmg l c b k a).snd)) δ) δ) δ) δ) (κr (b,a))) δ) δ) (κr (b,a))
def xdU (l c:LA):(Nat×Int×LA)→Option ((Nat×Int×LA)⊕(Nat×LA)):=fun (b,k,a)=>xkC l c b k a none (fun s=>some (.inl s)) (fun p=>some (.inr p))
def xkB (l c:LA):(Nat×Int×LA)→LA×List Box:=fun (b,k,a)=>([AV.list 3 l,AV.list 1 c,AV.osl 0 0 0 b,AV.int .i64 k],[⟨0,2,75,a,false,true⟩])
def xiL (l a:LA):(Nat×LA)→LR:=fun p=>(.leaf (.exit 2) [AV.osl 0 0 0 p.1] [⟨0,2,75,p.2,false,true⟩])
abbrev xLk (a:LA) (H:List Box):=XR Tryz.prog xny [0,3,5,6] [5] [(5,2,75),(3,1,1073741824)] (loopAt Tryz.f66 1) a H
theorem xLl (l a:LA) (s:Nat×Int×LA):Enc (encR (xkB l a) (xiL l a)) (xdU l a s) (xLk (xkB l a s).1 (xkB l a s).2):=by
 obtain ⟨c,k,b⟩:=s
 refine eV (xkC l a c k b none (fun s=>some (encR (xkB l a) (xiL l a) (.inl s))) (fun p=>some (encR (xkB l a) (xiL l a) (.inr p)))) (by kernel_rfl) ?_;unfold xdU xkC;repeat' first|exact eN|exact eS rfl|apply eB
def xzN:Lp:=lpOf [0,3,5,6] [5] [(5,2,75),(3,1,1073741824)] (pCons (pList 3 pAny) (pCons (pList 1 pAny) (pCons (pOsl 0 0 0) (pCons (pInt .i64) pNil)))) (pCons (pBox 0 2 75 false true pAny) pNil) fun (l,(c,(b,(k,_)))) (a,_)=>((Iter (xdU l c) (b,k,a)).isSome,xiL l c ((Iter (xdU l c) (b,k,a)).getD (0,[])))
theorem xH1:LoopOk Tryz.prog (ITryz.at xny.pin) xny.nt (loopAt Tryz.f66 1) xzN:=xaP fun e f h g=>by
 obtain ⟨l,⟨c,⟨b,⟨k,_⟩⟩⟩⟩:=e
 obtain ⟨a,_⟩:=f
 obtain ⟨d,rfl⟩:=Prod.mk.inj g
 exact xar mxTryz (inv0Ok Tryz.prog _) rfl xJr xDn (xkB l c) (xiL l c) (fun p=>by simp only [xiL,LR.eval];first|(simp;done)|(repeat' split<;>simp)) (xLl l c) (s:=(b,k,a)) (xab d)
def xqc:Env:=xzc.fn 82 0 (lsOf []) (lpsOf [(3,xpm),(14,xtl),(10,xzN)])
theorem xJs:OrcOk Tryz.prog (ITryz.at 0) xqc:=xtO.fn
theorem xGA:LoOk Tryz.prog (ITryz.at xqc.pin) xqc (Tryz.f66.body.getD .skip):=xaM (ls:=[loopAt Tryz.f66 0,loopAt Tryz.f66 1,loopAt Tryz.f66 2]) (by kernel_rfl) (lkC xH0 (lkC xH1 (lkC xwP lkN)))
def xyG (l:LA):=Iter (xdU l ((Iter (xdT l) ([AV.int .i64 0],0)).getD [])) (0,0,[])
def xyF (l:LA):=(xyG l).getD (0,[])
def xyD (l:LA):=(xyF l).fst
def xyE (l:LA):=(xyF l).snd
def xvb {T:Type} (l:LA) (δ:T) (κ:LA→T):T:=br ((Iter (xdT l) ([AV.int .i64 0],0)).isSome) (br ((xyG l).isSome) (br (decide (0+xyD l≤(xyE l).length)&&true) (κ (List.take (xyD l) (List.drop 0 (xyE l)))) δ) δ) δ
def xqW (l:LA):Option (LA):=xvb l none some
theorem xPX (l:LA):Enc (fun (p:LA)=>((AV.list 2 p):AV)) (xqW l) (XF Tryz.prog xqc Tryz.f66 (Tryz.f66.body.getD .skip) [AV.list 3 l]):=by
 refine eV (xvb l none (fun (p:LA)=>some ((AV.list 2 p):AV))) (by kernel_rfl) ?_;unfold xqW xvb;repeat' first|exact eN|exact eS rfl|apply eB
def xH2:LA→Option (Bool×AV):=ocOf (sCons (sList 3 pAny) sNil) fun (l,_)=>((xqW l).isSome,(AV.list 2 ((xqW l).getD [])))
theorem xPW:OcOk Tryz.prog ITryz 66 (xH2):=xaL fun c f e=>by
 obtain ⟨l,_⟩:=c
 obtain ⟨a,b⟩:=Prod.mk.inj e
 refine xaI (p:=xqc.pin) (xaK mxTryz (inv0Ok Tryz.prog _) rfl xJs Tryz.func66 rfl (by kernel_rfl) xGA ((xPX _ _ (xab (d:=[]) a)).trans ?_))
 exact congrArg some b
def xG9:Env:=xzc.with 66 xH2
theorem xCs:OrcOk Tryz.prog ITryz xG9:=xtO.with xPW
def xiP:Env:=xG9.fn 32 0 (lsOf []) (lpsOf [])
theorem xDD:OrcOk Tryz.prog (ITryz.at 0) xiP:=xCs.fn
theorem xyI:LoOk Tryz.prog (ITryz.at xiP.pin) xiP (loopAt Tryz.f39 0):=xaq (by kernel_rfl)
def xjp {T:Type} (l c:LA) (a:Nat) (i:Int) (b:LA) (δ:T) (κl:(Nat×Int×LA)→T) (κr:(Nat×LA)→T):T:=br (decide (i<l.length)) (br (decide (0≤i)&&decide (i<l.length)) (br (decide (i.toNat<l.length)&&hasSh1 (Sh.list 3) ((l.getD i.toNat .top).cells.getD 0 .top)) (br ((xbh ((l.getD i.toNat .top).cells.getD 0 .top).toList c).isSome) (br ((xbh ((l.getD i.toNat .top).cells.getD 0 .top).toList c).getD 0==0) (br (decide (0≤i)&&decide (i<l.length)) (br (decide (i.toNat<l.length)&&((l.getD i.toNat .top).cells.length==3&&hasShs [Sh.int .i64,Sh.int .i64] (l.getD i.toNat .top).cells 1)) (br (a==b.length&&(decide ((a+1)*24≤140737488355328)&&decide (a+1≤4611686018427387904))) (κl (a+1,i64.wrap (i+1),b++[AV.agg [AV.int .i64 ((l.getD i.toNat .top).cells.getD 1 .top).toInt,AV.int .i64 ((l.getD i.toNat .top).cells.getD 2 .top).toInt,AV.int .i64 1]])) δ) δ) δ) (κl (a,i64.wrap (i+1),b))) δ) δ) δ) (κr (a,b))
def xcE (l b:LA):(Nat×Int×LA)→Option ((Nat×Int×LA)⊕(Nat×LA)):=fun (c,i,a)=>xjp l b c i a none (fun s=>some (.inl s)) (fun p=>some (.inr p))
def xhh (l b:LA):(Nat×Int×LA)→LA×List Box:=fun (c,i,a)=>([AV.list 3 l,AV.list 3 b,AV.osl 0 0 0 c,AV.int .i64 i],[⟨0,3,78,a,false,true⟩])
def xfV (l a:LA):(Nat×LA)→LR:=fun p=>(.leaf (.exit 0) [AV.osl 0 0 0 p.1] [⟨0,3,78,p.2,false,true⟩])
abbrev xEZ (a:LA) (H:List Box):=XR Tryz.prog xiP [0,1,5,6] [5] [(5,3,78)] (loopAt Tryz.f39 0) a H
theorem xEx (l a:LA) (s:Nat×Int×LA):Enc (encR (xhh l a) (xfV l a)) (xcE l a s) (xEZ (xhh l a s).1 (xhh l a s).2):=by
 obtain ⟨c,i,b⟩:=s
 refine eV (xjp l a c i b none (fun s=>some (encR (xhh l a) (xfV l a) (.inl s))) (fun p=>some (encR (xhh l a) (xfV l a) (.inr p)))) (by kernel_rfl) ?_;unfold xcE xjp;repeat' first|exact eN|exact eS rfl|apply eB
def xt6:Lp:=lpOf [0,1,5,6] [5] [(5,3,78)] (pCons (pList 3 pAny) (pCons (pList 3 pAny) (pCons (pOsl 0 0 0) (pCons (pInt .i64) pNil)))) (pCons (pBox 0 3 78 false true pAny) pNil) fun (l,(a,(c,(i,_)))) (b,_)=>((Iter (xcE l a) (c,i,b)).isSome,xfV l a ((Iter (xcE l a) (c,i,b)).getD (0,[])))
theorem xB4:LoopOk Tryz.prog (ITryz.at xiP.pin) xiP.nt (loopAt Tryz.f39 0) xt6:=xaP fun e f h g=>by
 obtain ⟨l,⟨a,⟨c,⟨i,_⟩⟩⟩⟩:=e
 obtain ⟨b,_⟩:=f
 obtain ⟨d,rfl⟩:=Prod.mk.inj g
 exact xar mxTryz (inv0Ok Tryz.prog _) rfl xDD xyI (xhh l a) (xfV l a) (fun p=>by simp only [xfV,LR.eval];first|(simp;done)|(repeat' split<;>simp)) (xEx l a) (s:=(c,i,b)) (xab d)
def xlf:Env:=xG9.fn 32 0 (lsOf []) (lpsOf [(3,xt6)])
theorem xDE:OrcOk Tryz.prog (ITryz.at 0) xlf:=xCs.fn
theorem xAU:LoOk Tryz.prog (ITryz.at xlf.pin) xlf (Tryz.f39.body.getD .skip):=xaM (ls:=[loopAt Tryz.f39 0]) (by kernel_rfl) (lkC xB4 lkN)
def xsa (l a:LA):=(Iter (xcE l a) (0,0,[])).getD (0,[])
def xr8 (l a:LA):=(xsa l a).snd
def xr9 (l a:LA):=(xsa l a).fst
def xr7 (l a:LA):=xqW (List.take (xr9 l a) (List.drop 0 (xr8 l a)))
def xpp {T:Type} (l a:LA) (δ:T) (κ:LA→T):T:=br ((Iter (xcE l a) (0,0,[])).isSome) (br (decide (0+xr9 l a≤(xr8 l a).length)&&true) (br ((xr7 l a).isSome) (κ ((xr7 l a).getD [])) δ) δ) δ
def xim (l a:LA):Option (LA):=xpp l a none some
theorem xJC (l a:LA):Enc (fun (p:LA)=>((AV.list 2 p):AV)) (xim l a) (XF Tryz.prog xlf Tryz.f39 (Tryz.f39.body.getD .skip) [AV.list 3 l,AV.list 3 a]):=by
 refine eV (xpp l a none (fun (p:LA)=>some ((AV.list 2 p):AV))) (by kernel_rfl) ?_;unfold xim xpp;repeat' first|exact eN|exact eS rfl|apply eB
def xzZ:LA→Option (Bool×AV):=ocOf (sCons (sList 3 pAny) (sCons (sList 3 pAny) sNil)) fun (l,(a,_))=>((xim l a).isSome,(AV.list 2 ((xim l a).getD [])))
theorem xJB:OcOk Tryz.prog ITryz 39 (xzZ):=xaL fun c g e=>by
 obtain ⟨l,⟨f,_⟩⟩:=c
 obtain ⟨a,b⟩:=Prod.mk.inj e
 refine xaI (p:=xlf.pin) (xaK mxTryz (inv0Ok Tryz.prog _) rfl xDE Tryz.func39 rfl (by kernel_rfl) xAU ((xJC _ _ _ (xab (d:=[]) a)).trans ?_))
 exact congrArg some b
def xzd:Env:=xG9.with 39 xzZ
theorem xtP:OrcOk Tryz.prog ITryz xzd:=xCs.with xJB
def xiT:Env:=xzd.fn 66 0 (lsOf []) (lpsOf [])
theorem xDM:OrcOk Tryz.prog (ITryz.at 0) xiT:=xtP.fn
theorem xyM:LoOk Tryz.prog (ITryz.at xiT.pin) xiT (loopAt Tryz.f46 1):=xaq (by kernel_rfl)
def xhn {T:Type} (a:LA) (c:Nat) (i k:Int) (b:LA) (δ:T) (κl:(Int×LA)→T) (κr:(Int×LA)→T):T:=br (decide (k<a.length)) (br (decide (0≤k)&&decide (k<a.length)) (br (decide (k.toNat<a.length)&&hasSh1 (Sh.list 3) ((a.getD k.toNat .top).cells.getD 0 .top)) (br (decide (0≤i)&&decide (i<a.length)) (br (decide (i.toNat<a.length)&&hasSh1 (Sh.list 3) ((a.getD i.toNat .top).cells.getD 0 .top)) (br ((xbh ((a.getD k.toNat .top).cells.getD 0 .top).toList ((a.getD i.toNat .top).cells.getD 0 .top).toList).isSome) (br ((xbh ((a.getD k.toNat .top).cells.getD 0 .top).toList ((a.getD i.toNat .top).cells.getD 0 .top).toList).getD 0==0) (κl (i64.wrap (k+1),b)) (κr (k,b))) δ) δ) δ) δ) δ) (κr (k,b))
def xbz (c:LA) (b:Nat) (i:Int):(Int×LA)→Option ((Int×LA)⊕(Int×LA)):=fun (k,a)=>xhn c b i k a none (fun s=>some (.inl s)) (fun p=>some (.inr p))
def xhm (c:LA) (b:Nat) (i:Int):(Int×LA)→LA×List Box:=fun (k,a)=>([AV.list 3 c,AV.osl 0 0 0 b,AV.int .i64 i,AV.int .i64 k],[⟨0,2,61,a,false,true⟩])
def xfZ (b:LA) (a:Nat) (i:Int):(Int×LA)→LR:=fun p=>(.leaf (.exit 2) [AV.list 3 b,AV.osl 0 0 0 a,AV.int .i64 i,AV.int .i64 p.1] [⟨0,2,61,p.2,false,true⟩])
abbrev xFb (a:LA) (H:List Box):=XR Tryz.prog xiT [3,4,5,6] [3,4,5,6] [(4,2,61)] (loopAt Tryz.f46 1) a H
theorem xFc (b:LA) (a:Nat) (i:Int) (s:Int×LA):Enc (encR (xhm b a i) (xfZ b a i)) (xbz b a i s) (xFb (xhm b a i s).1 (xhm b a i s).2):=by
 obtain ⟨k,c⟩:=s
 refine eV (xhn b a i k c none (fun s=>some (encR (xhm b a i) (xfZ b a i) (.inl s))) (fun p=>some (encR (xhm b a i) (xfZ b a i) (.inr p)))) (by kernel_rfl) ?_;unfold xbz xhn;repeat' first|exact eN|exact eS rfl|apply eB
def xlm:Lp:=lpOf [3,4,5,6] [3,4,5,6] [(4,2,61)] (pCons (pList 3 pAny) (pCons (pOsl 0 0 0) (pCons (pInt .i64) (pCons (pInt .i64) pNil)))) (pCons (pBox 0 2 61 false true pAny) pNil) fun (c,(a,(i,(k,_)))) (b,_)=>((Iter (xbz c a i) (k,b)).isSome,xfZ c a i ((Iter (xbz c a i) (k,b)).getD (0,[])))
theorem xtc:LoopOk Tryz.prog (ITryz.at xiT.pin) xiT.nt (loopAt Tryz.f46 1) xlm:=xaP fun e f h g=>by
 obtain ⟨b,⟨a,⟨i,⟨k,_⟩⟩⟩⟩:=e
 obtain ⟨c,_⟩:=f
 obtain ⟨d,rfl⟩:=Prod.mk.inj g
 exact xar mxTryz (inv0Ok Tryz.prog _) rfl xDM xyM (xhm b a i) (xfZ b a i) (fun p=>by simp only [xfZ,LR.eval];first|(simp;done)|(repeat' split<;>simp)) (xFc b a i) (s:=(k,c)) (xab d)
def xiU:Env:=xzd.fn 66 0 (lsOf []) (lpsOf [(6,xlm)])
theorem xDN:OrcOk Tryz.prog (ITryz.at 0) xiU:=xtP.fn
theorem xyN:LoOk Tryz.prog (ITryz.at xiU.pin) xiU (loopAt Tryz.f46 2):=xaq (by kernel_rfl)
def xhp {T:Type} (d:LA) (i k:Int) (a:LA) (b:Nat) (n:Int) (c:LA) (δ:T) (κl:(Nat×Int×LA)→T) (κr:(Nat×LA)→T):T:=br (decide (n<a.length)) (br (decide (0≤n)&&decide (n<a.length)) (br (decide (n.toNat<a.length)&&hasSh1 (Sh.list 3) ((a.getD n.toNat .top).cells.getD 0 .top)) (br (decide (0≤k)&&decide (k≤d.length)&&(decide (0≤i)&&decide (i≤(↑k.toNat:Int)))) (br (decide (0≤n)&&decide (n<a.length)) (br (decide (n.toNat<a.length)&&hasSh1 (Sh.list 3) ((a.getD n.toNat .top).cells.getD 0 .top)) (br ((xim (List.take (k.toNat - i.toNat) (List.drop i.toNat d)) ((a.getD n.toNat .top).cells.getD 0 .top).toList).isSome) (br (b==c.length&&(decide ((b+1)*48≤140737488355328)&&decide (b+1≤4611686018427387904))) (κl (b+1,i64.wrap (n+1),c++[AV.agg [AV.list 3 ((a.getD n.toNat .top).cells.getD 0 .top).toList,AV.list 2 ((xim (List.take (k.toNat - i.toNat) (List.drop i.toNat d)) ((a.getD n.toNat .top).cells.getD 0 .top).toList).getD [])]])) δ) δ) δ) δ) δ) δ) δ) (κr (b,c))
def xcH (d:LA) (i k:Int) (c:LA):(Nat×Int×LA)→Option ((Nat×Int×LA)⊕(Nat×LA)):=fun (b,n,a)=>xhp d i k c b n a none (fun s=>some (.inl s)) (fun p=>some (.inr p))
def xho (d:LA) (i k:Int) (c:LA):(Nat×Int×LA)→LA×List Box:=fun (b,n,a)=>([AV.list 3 d,AV.osl 0 0 0 b,AV.int .i64 i,AV.int .i64 k,AV.list 1 c,AV.int .i64 n],[⟨0,2,61,a,false,true⟩])
def xfx (a:LA) (i k:Int) (b:LA):(Nat×LA)→LR:=fun p=>(.leaf (.exit 4) [AV.list 3 a,AV.osl 0 0 0 p.1,AV.int .i64 k] [⟨0,2,61,p.2,false,true⟩])
abbrev xFd (a:LA) (H:List Box):=XR Tryz.prog xiU [3,4,5,6,7,8] [3,4,6] [(4,2,61)] (loopAt Tryz.f46 2) a H
theorem xFe (b:LA) (i k:Int) (a:LA) (s:Nat×Int×LA):Enc (encR (xho b i k a) (xfx b i k a)) (xcH b i k a s) (xFd (xho b i k a s).1 (xho b i k a s).2):=by
 obtain ⟨d,n,c⟩:=s
 refine eV (xhp b i k a d n c none (fun s=>some (encR (xho b i k a) (xfx b i k a) (.inl s))) (fun p=>some (encR (xho b i k a) (xfx b i k a) (.inr p)))) (by kernel_rfl) ?_;unfold xcH xhp;repeat' first|exact eN|exact eS rfl|apply eB
def xoH:Lp:=lpOf [3,4,5,6,7,8] [3,4,6] [(4,2,61)] (pCons (pList 3 pAny) (pCons (pOsl 0 0 0) (pCons (pInt .i64) (pCons (pInt .i64) (pCons (pList 1 pAny) (pCons (pInt .i64) pNil)))))) (pCons (pBox 0 2 61 false true pAny) pNil) fun (d,(c,(i,(k,(b,(n,_)))))) (a,_)=>((Iter (xcH d i k b) (c,n,a)).isSome,xfx d i k b ((Iter (xcH d i k b) (c,n,a)).getD (0,[])))
theorem xtd:LoopOk Tryz.prog (ITryz.at xiU.pin) xiU.nt (loopAt Tryz.f46 2) xoH:=xaP fun f g j h=>by
 obtain ⟨b,⟨d,⟨i,⟨k,⟨a,⟨n,_⟩⟩⟩⟩⟩⟩:=f
 obtain ⟨c,_⟩:=g
 obtain ⟨e,rfl⟩:=Prod.mk.inj h
 exact xar mxTryz (inv0Ok Tryz.prog _) rfl xDN xyN (xho b i k a) (xfx b i k a) (fun p=>by simp only [xfx,LR.eval];first|(simp;done)|(repeat' split<;>simp)) (xFe b i k a) (s:=(d,n,c)) (xab e)
def xiV:Env:=xzd.fn 66 0 (lsOf []) (lpsOf [(6,xlm),(10,xoH)])
theorem xDO:OrcOk Tryz.prog (ITryz.at 0) xiV:=xtP.fn
theorem xyO:LoOk Tryz.prog (ITryz.at xiV.pin) xiV (loopAt Tryz.f46 0):=xaM (ls:=[loopAt Tryz.f46 1,loopAt Tryz.f46 2]) (by kernel_rfl) (lkC xtc (lkC xtd lkN))
def xdK (c:LA) (b:Nat) (i:Int) (a:LA):=((Iter (xbz c b i) (i,a)).getD (0,[])).fst
def xoG (c:LA) (a:Nat) (i:Int) (b:LA):=Iter (xcH c i (xdK c a i b) ((xli (List.take ((xdK c a i b).toNat - i.toNat) (List.drop i.toNat c))).getD [])) (a,0,((Iter (xbz c a i) (i,b)).getD (0,[])).snd)
def xoF (c:LA) (b:Nat) (i:Int) (a:LA):=(xoG c b i a).getD (0,[])
def xjs {T:Type} (c:LA) (b:Nat) (i:Int) (a:LA) (δ:T) (κl:(Nat×Int×LA)→T) (κr:(Nat×LA)→T):T:=br (decide (i<c.length)) (br ((Iter (xbz c b i) (i,a)).isSome) (br (decide (0≤xdK c b i a)&&decide (xdK c b i a≤c.length)&&(decide (0≤i)&&decide (i≤(↑(xdK c b i a).toNat:Int)))) (br ((xli (List.take ((xdK c b i a).toNat - i.toNat) (List.drop i.toNat c))).isSome) (br ((xoG c b i a).isSome) (κl ((xoF c b i a).fst,xdK c b i a,(xoF c b i a).snd)) δ) δ) δ) δ) (κr (b,a))
def xcG (c:LA):(Nat×Int×LA)→Option ((Nat×Int×LA)⊕(Nat×LA)):=fun (b,i,a)=>xjs c b i a none (fun s=>some (.inl s)) (fun p=>some (.inr p))
def xhl (c:LA):(Nat×Int×LA)→LA×List Box:=fun (b,i,a)=>([AV.list 3 c,AV.osl 0 0 0 b,AV.int .i64 i],[⟨0,2,61,a,false,true⟩])
def xfY (a:LA):(Nat×LA)→LR:=fun p=>(.leaf (.exit 0) [AV.osl 0 0 0 p.1] [⟨0,2,61,p.2,false,true⟩])
abbrev xE9 (a:LA) (H:List Box):=XR Tryz.prog xiV [3,4,5] [4] [(4,2,61)] (loopAt Tryz.f46 0) a H
theorem xFa (a:LA) (s:Nat×Int×LA):Enc (encR (xhl a) (xfY a)) (xcG a s) (xE9 (xhl a s).1 (xhl a s).2):=by
 obtain ⟨c,i,b⟩:=s
 refine eV (xjs a c i b none (fun s=>some (encR (xhl a) (xfY a) (.inl s))) (fun p=>some (encR (xhl a) (xfY a) (.inr p)))) (by kernel_rfl) ?_;unfold xcG xjs;repeat' first|exact eN|exact eS rfl|apply eB
def xt9:Lp:=lpOf [3,4,5] [4] [(4,2,61)] (pCons (pList 3 pAny) (pCons (pOsl 0 0 0) (pCons (pInt .i64) pNil))) (pCons (pBox 0 2 61 false true pAny) pNil) fun (c,(b,(i,_))) (a,_)=>((Iter (xcG c) (b,i,a)).isSome,xfY c ((Iter (xcG c) (b,i,a)).getD (0,[])))
theorem xB9:LoopOk Tryz.prog (ITryz.at xiV.pin) xiV.nt (loopAt Tryz.f46 0) xt9:=xaP fun e f h g=>by
 obtain ⟨a,⟨c,⟨i,_⟩⟩⟩:=e
 obtain ⟨b,_⟩:=f
 obtain ⟨d,rfl⟩:=Prod.mk.inj g
 exact xar mxTryz (inv0Ok Tryz.prog _) rfl xDO xyO (xhl a) (xfY a) (fun p=>by simp only [xfY,LR.eval];first|(simp;done)|(repeat' split<;>simp)) (xFa a) (s:=(c,i,b)) (xab d)
def xll:Env:=xzd.fn 66 0 (lsOf []) (lpsOf [(6,xlm),(10,xoH),(4,xt9)])
theorem xDP:OrcOk Tryz.prog (ITryz.at 0) xll:=xtP.fn
theorem xA1:LoOk Tryz.prog (ITryz.at xll.pin) xll (Tryz.f46.body.getD .skip):=xaM (ls:=[loopAt Tryz.f46 0,loopAt Tryz.f46 1,loopAt Tryz.f46 2]) (by kernel_rfl) (lkC xB9 (lkC xtc (lkC xtd lkN)))
def xsj (l:LA):=Iter (xcG ((xde 100 l).getD [])) (0,0,[])
def xsi (l:LA):=(xsj l).getD (0,[])
def xsg (l:LA):=(xsi l).fst
def xsh (l:LA):=(xsi l).snd
def xps {T:Type} (l:LA) (δ:T) (κ:LA→T):T:=br ((xde 100 l).isSome) (br ((xsj l).isSome) (br (decide (0+xsg l≤(xsh l).length)&&true) (κ (List.take (xsg l) (List.drop 0 (xsh l)))) δ) δ) δ
def xd0 (l:LA):Option (LA):=xps l none some
theorem xJM (l:LA):Enc (fun (p:LA)=>((AV.list 2 p):AV)) (xd0 l) (XF Tryz.prog xll Tryz.f46 (Tryz.f46.body.getD .skip) [AV.list 3 l]):=by
 refine eV (xps l none (fun (p:LA)=>some ((AV.list 2 p):AV))) (by kernel_rfl) ?_;unfold xd0 xps;repeat' first|exact eN|exact eS rfl|apply eB
def xz3:LA→Option (Bool×AV):=ocOf (sCons (sList 3 pAny) sNil) fun (l,_)=>((xd0 l).isSome,(AV.list 2 ((xd0 l).getD [])))
theorem xJL:OcOk Tryz.prog ITryz 46 (xz3):=xaL fun c f e=>by
 obtain ⟨l,_⟩:=c
 obtain ⟨a,b⟩:=Prod.mk.inj e
 refine xaI (p:=xll.pin) (xaK mxTryz (inv0Ok Tryz.prog _) rfl xDP Tryz.func46 rfl (by kernel_rfl) xA1 ((xJM _ _ (xab (d:=[]) a)).trans ?_))
 exact congrArg some b
def xHa:Env:=xzd.with 46 xz3
theorem xCt:OrcOk Tryz.prog ITryz xHa:=xtP.with xJL
def xh2:Env:=xHa.fn 42 0 (lsOf []) (lpsOf [])
theorem xBQ:OrcOk Tryz.prog (ITryz.at 0) xh2:=xCt.fn
theorem xwj:LoOk Tryz.prog (ITryz.at xh2.pin) xh2 (loopAt Tryz.f50 0):=xaq (by kernel_rfl)
def xfE (l:LA) (n i:Int):=decide (((l.getD i.toNat .top).cells.getD 1 .top).toInt≥n)
def xda (l:LA) (i:Int):=decide (0≤i)&&decide (i<l.length)
def xe0 (l:LA) (b:Nat) (i:Int) (a:LA):=(xds b ((l.getD i.toNat .top).cells.getD 0 .top).toInt 1099511627776 a).getD (false,(0,[],[]),0,[])
def xe1 (l:LA) (b:Nat) (i:Int) (a:LA):=xds b ((l.getD i.toNat .top).cells.getD 0 .top).toInt ((l.getD (i64.wrap (i+1)).toNat .top).cells.getD 0 .top).toInt a
def xe2 (l:LA) (i:Int):=decide (i64.wrap (i+1)<(↑l.length:Int))
def xfL (l:LA) (b:Nat) (i:Int) (a:LA):=(xe1 l b i a).getD (false,(0,[],[]),0,[])
def xfM (l:LA) (b:Nat) (i:Int) (a:LA):=(xe0 l b i a).fst
def xfN (l:LA) (b:Nat) (i:Int) (a:LA):=(xe0 l b i a).snd
def xfH (l:LA) (b:Nat) (i:Int) (a:LA):=(xfL l b i a).fst
def xfI (l:LA) (b:Nat) (i:Int) (a:LA):=(xfL l b i a).snd
def xfJ (l:LA) (b:Nat) (i:Int) (a:LA):=(xfN l b i a).snd
def xfK (l:LA) (b:Nat) (i:Int) (a:LA):=(xfN l b i a).fst
def xfF (l:LA) (b:Nat) (i:Int) (a:LA):=(xfI l b i a).snd
def xfG (l:LA) (b:Nat) (i:Int) (a:LA):=(xfI l b i a).fst
def xdJ {T:Type} (l:LA) (n:Int) (b:Nat) (i:Int) (a:LA) (δ:T) (κl:(Nat×Int×LA)→T) (κr:(Nat×LA)→T):T:=br (decide (i<l.length)) (br (xe2 l i) (br (decide (0≤i64.wrap (i+1))&&xe2 l i) (br (decide ((i64.wrap (i+1)).toNat<l.length)&&hasSh1 (Sh.int .i64) ((l.getD (i64.wrap (i+1)).toNat .top).cells.getD 0 .top)) (br (xda l i) (br (decide (i.toNat<l.length)&&hasSh1 (Sh.int .i64) ((l.getD i.toNat .top).cells.getD 1 .top)) (br (xfE l n i) (br (xda l i) (br (decide (i.toNat<l.length)&&hasSh1 (Sh.int .i64) ((l.getD i.toNat .top).cells.getD 0 .top)) (br ((xe1 l b i a).isSome) (κl (br (xfH l b i a) (xfG l b i a).fst (xfF l b i a).fst,i64.wrap (i+1),br (xfH l b i a) (xfG l b i a).snd.snd (xfF l b i a).snd)) δ) δ) δ) (κl (b,i64.wrap (i+1),a))) δ) δ) δ) δ) (br (xda l i) (br (decide (i.toNat<l.length)&&hasSh1 (Sh.int .i64) ((l.getD i.toNat .top).cells.getD 1 .top)) (br (xfE l n i) (br (xda l i) (br (decide (i.toNat<l.length)&&hasSh1 (Sh.int .i64) ((l.getD i.toNat .top).cells.getD 0 .top)) (br ((xds b ((l.getD i.toNat .top).cells.getD 0 .top).toInt 1099511627776 a).isSome) (κl (br (xfM l b i a) (xfK l b i a).fst (xfJ l b i a).fst,i64.wrap (i+1),br (xfM l b i a) (xfK l b i a).snd.snd (xfJ l b i a).snd)) δ) δ) δ) (κl (b,i64.wrap (i+1),a))) δ) δ)) (κr (b,a))
def xa4 (l:LA) (n:Int):(Nat×Int×LA)→Option ((Nat×Int×LA)⊕(Nat×LA)):=fun (b,i,a)=>xdJ l n b i a none (fun s=>some (.inl s)) (fun p=>some (.inr p))
def xgy (l:LA) (n:Int):(Nat×Int×LA)→LA×List Box:=fun (b,i,a)=>([AV.list 2 l,AV.int .i64 n,AV.osl 0 0 0 b,AV.int .i64 i],[⟨0,2,31,a,false,true⟩])
def xex (l:LA) (n:Int):(Nat×LA)→LR:=fun p=>(.leaf (.exit 0) [AV.osl 0 0 0 p.1] [⟨0,2,31,p.2,false,true⟩])
abbrev xDg (a:LA) (H:List Box):=XR Tryz.prog xh2 [0,1,5,6] [5] [(5,2,31)] (loopAt Tryz.f50 0) a H
theorem xDh (l:LA) (n:Int) (s:Nat×Int×LA):Enc (encR (xgy l n) (xex l n)) (xa4 l n s) (xDg (xgy l n s).1 (xgy l n s).2):=by
 obtain ⟨b,i,a⟩:=s
 refine eV (xdJ l n b i a none (fun s=>some (encR (xgy l n) (xex l n) (.inl s))) (fun p=>some (encR (xgy l n) (xex l n) (.inr p)))) (by kernel_rfl) ?_;unfold xa4 xdJ;repeat' first|exact eN|exact eS rfl|apply eB
def xs9:Lp:=lpOf [0,1,5,6] [5] [(5,2,31)] (pCons (pList 2 pAny) (pCons (pInt .i64) (pCons (pOsl 0 0 0) (pCons (pInt .i64) pNil)))) (pCons (pBox 0 2 31 false true pAny) pNil) fun (l,(n,(b,(i,_)))) (a,_)=>((Iter (xa4 l n) (b,i,a)).isSome,xex l n ((Iter (xa4 l n) (b,i,a)).getD (0,[])))
theorem xAO:LoopOk Tryz.prog (ITryz.at xh2.pin) xh2.nt (loopAt Tryz.f50 0) xs9:=xaP fun d e g f=>by
 obtain ⟨l,⟨n,⟨b,⟨i,_⟩⟩⟩⟩:=d
 obtain ⟨a,_⟩:=e
 obtain ⟨c,rfl⟩:=Prod.mk.inj f
 exact xar mxTryz (inv0Ok Tryz.prog _) rfl xBQ xwj (xgy l n) (xex l n) (fun p=>by simp only [xex,LR.eval];first|(simp;done)|(repeat' split<;>simp)) (xDh l n) (s:=(b,i,a)) (xab c)
def xka:Env:=xHa.fn 42 0 (lsOf []) (lpsOf [(3,xs9)])
theorem xBR:OrcOk Tryz.prog (ITryz.at 0) xka:=xCt.fn
theorem xzL:LoOk Tryz.prog (ITryz.at xka.pin) xka (Tryz.f50.body.getD .skip):=xaM (ls:=[loopAt Tryz.f50 0]) (by kernel_rfl) (lkC xAO lkN)
def xqV (l:LA) (n:Int):=(Iter (xa4 l n) (0,0,[])).getD (0,[])
def xqT (l:LA) (n:Int):=(xqV l n).snd
def xqU (l:LA) (n:Int):=(xqV l n).fst
def xnW {T:Type} (l:LA) (n:Int) (δ:T) (κ:LA→T):T:=br ((Iter (xa4 l n) (0,0,[])).isSome) (br (decide (0+xqU l n≤(xqT l n).length)&&true) (κ (List.take (xqU l n) (List.drop 0 (xqT l n)))) δ) δ
def xbr (l:LA) (n:Int):Option (LA):=xnW l n none some
theorem xHx (l:LA) (n:Int):Enc (fun (p:LA)=>((AV.list 2 p):AV)) (xbr l n) (XF Tryz.prog xka Tryz.f50 (Tryz.f50.body.getD .skip) [AV.list 2 l,AV.int .i64 n]):=by
 refine eV (xnW l n none (fun (p:LA)=>some ((AV.list 2 p):AV))) (by kernel_rfl) ?_;unfold xbr xnW;repeat' first|exact eN|exact eS rfl|apply eB
def xwO:LA→Option (Bool×AV):=ocOf (sCons (sList 2 pAny) (sCons (sEq (pInt .i64)) sNil)) fun (l,(n,_))=>((xbr l n).isSome,(AV.list 2 ((xbr l n).getD [])))
theorem xHZ:OcOk Tryz.prog ITryz 50 (xwO):=xaL fun c f e=>by
 obtain ⟨l,⟨n,_⟩⟩:=c
 obtain ⟨a,b⟩:=Prod.mk.inj e
 refine xaI (p:=xka.pin) (xaK mxTryz (inv0Ok Tryz.prog _) rfl xBR Tryz.func50 rfl (by kernel_rfl) xzL ((xHx _ _ _ (xab (d:=[]) a)).trans ?_))
 exact congrArg some b
def xHb:Env:=xHa.with 50 xwO
theorem xCu:OrcOk Tryz.prog ITryz xHb:=xCt.with xHZ
def xjZ:Env:=xHb.fn 38 0 (lsOf []) (lpsOf [])
theorem xEM:OrcOk Tryz.prog (ITryz.at 0) xjZ:=xCu.fn
theorem xzO:LoOk Tryz.prog (ITryz.at xjZ.pin) xjZ (loopAt Tryz.f75 0):=xaq (by kernel_rfl)
def xl8 (l:LA) (i:Int):=decide (i.toNat<l.length)&&((l.getD i.toNat .top).cells.length==2&&hasShs [Sh.int .i64,Sh.int .i64] (l.getD i.toNat .top).cells 0)
def xh4 {T:Type} (l:LA) (a:Nat) (i c d:Int) (b:LA) (δ:T) (κl:(Nat×Int×Int×Int×LA)→T) (κr:(Nat×Int×Int×Int×LA)→T):T:=br (decide (i<l.length)) (br (decide (0≤i)&&decide (i<l.length)) (br (xl8 l i) (br (decide (xkz ((l.getD i.toNat .top).cells.getD 0 .top).toInt ((l.getD i.toNat .top).cells.getD 1 .top).toInt c d≤0)) (br (decide (0≤i)&&decide (i<l.length)) (br (xl8 l i) (br (a==b.length&&(decide ((a+1)*16≤140737488355328)&&decide (a+1≤4611686018427387904))) (κl (a+1,i64.wrap (i+1),c,d,b++[AV.agg [AV.int .i64 ((l.getD i.toNat .top).cells.getD 0 .top).toInt,AV.int .i64 ((l.getD i.toNat .top).cells.getD 1 .top).toInt]])) δ) δ) δ) (κr (a,i,c,d,b))) δ) δ) (κr (a,i,c,d,b))
def xcp (l:LA):(Nat×Int×Int×Int×LA)→Option ((Nat×Int×Int×Int×LA)⊕(Nat×Int×Int×Int×LA)):=fun (b,i,c,d,a)=>xh4 l b i c d a none (fun s=>some (.inl s)) (fun p=>some (.inr p))
def xh3 (l:LA):(Nat×Int×Int×Int×LA)→LA×List Box:=fun (b,i,c,d,a)=>([AV.list 2 l,AV.own 0 0 0 0,AV.osl 1 0 0 b,AV.int .i64 i],[⟨0,2,31,[AV.agg [AV.int .i64 c,AV.int .i64 d]],false,true⟩,⟨0,2,31,a,false,true⟩])
def xgz (l:LA):(Nat×Int×Int×Int×LA)→LR:=fun p=>(.leaf (.exit 0) [AV.list 2 l,AV.own 0 0 0 0,AV.osl 1 0 0 p.1,AV.int .i64 p.2.1] [⟨0,2,31,[AV.agg [AV.int .i64 p.2.2.1,AV.int .i64 p.2.2.2.1]],false,true⟩,⟨0,2,31,p.2.2.2.2,false,true⟩])
abbrev xGB (a:LA) (H:List Box):=XR Tryz.prog xjZ [0,3,5,6] [0,3,5,6] [(5,2,31)] (loopAt Tryz.f75 0) a H
theorem xGC (l:LA) (s:Nat×Int×Int×Int×LA):Enc (encR (xh3 l) (xgz l)) (xcp l s) (xGB (xh3 l s).1 (xh3 l s).2):=by
 obtain ⟨b,i,c,d,a⟩:=s
 refine eV (xh4 l b i c d a none (fun s=>some (encR (xh3 l) (xgz l) (.inl s))) (fun p=>some (encR (xh3 l) (xgz l) (.inr p)))) (by kernel_rfl) ?_;unfold xcp xh4;repeat' first|exact eN|exact eS rfl|apply eB
def xuX:Lp:=lpOf [0,3,5,6] [0,3,5,6] [(5,2,31)] (pCons (pList 2 pAny) (pCons (pOwn 0 0 0 0) (pCons (pOsl 1 0 0) (pCons (pInt .i64) pNil)))) (pCons (pBox 0 2 31 false true (pCons (pAgg (pCons (pInt .i64) (pCons (pInt .i64) pNil))) pNil)) (pCons (pBox 0 2 31 false true pAny) pNil)) fun (l,(_,(b,(i,_)))) (((c,(d,_)),_),(a,_))=>((Iter (xcp l) (b,i,c,d,a)).isSome,xgz l ((Iter (xcp l) (b,i,c,d,a)).getD (0,0,0,0,[])))
theorem xDo:LoopOk Tryz.prog (ITryz.at xjZ.pin) xjZ.nt (loopAt Tryz.f75 0) xuX:=xaP fun f g j h=>by
 obtain ⟨l,⟨_,⟨b,⟨i,_⟩⟩⟩⟩:=f
 obtain ⟨⟨⟨c,⟨d,_⟩⟩,_⟩,⟨a,_⟩⟩:=g
 obtain ⟨e,rfl⟩:=Prod.mk.inj h
 exact xar mxTryz (inv0Ok Tryz.prog _) rfl xEM xzO (xh3 l) (xgz l) (fun p=>by simp only [xgz,LR.eval];first|(simp;done)|(repeat' split<;>simp)) (xGC l) (s:=(b,i,c,d,a)) (xab e)
def xmm:Env:=xHb.fn 38 0 (lsOf []) (lpsOf [(3,xuX)])
theorem xEN:OrcOk Tryz.prog (ITryz.at 0) xmm:=xCu.fn
theorem xBT:LoOk Tryz.prog (ITryz.at xmm.pin) xmm (Tryz.f75.body.getD .skip):=xaM (ls:=[loopAt Tryz.f75 0]) (by kernel_rfl) (lkC xDo lkN)
def xr0 (l:LA) (a b:Int):=Iter (xcp l) (0,0,a,b,[])
def xrx (l:LA) (a b:Int):=(xr0 l a b).getD (0,0,0,0,[])
def xts (l:LA) (a b:Int):=(xrx l a b).fst
def xrZ (l:LA) (a b:Int):=(xrx l a b).snd
def xmo (l:LA) (a b:Int):=xts l a b+1
def xmp (l:LA) (a b:Int):=(xrZ l a b).fst
def xtr (l:LA) (a b:Int):=(xrZ l a b).snd
def xto (l:LA) (a b:Int):=List.take (l.length - (xmp l a b).toNat) (List.drop (xmp l a b).toNat l)
def xtq (l:LA) (a b:Int):=(xtr l a b).snd
def xmn (l:LA) (a b:Int):=xmo l a b+(xto l a b).length
def xtp (l:LA) (a b:Int):=(xtq l a b).snd
def xtn (l:LA) (a b:Int):=xtp l a b++[AV.agg [AV.int .i64 (xtr l a b).fst,AV.int .i64 (xtq l a b).fst]]
def xtm (l:LA) (a b:Int):=xtn l a b++xto l a b
def xqD {T:Type} (l:LA) (a b:Int) (δ:T) (κ:LA→T):T:=br ((xr0 l a b).isSome) (br (xts l a b==(xtp l a b).length&&(decide (xmo l a b*16≤140737488355328)&&decide (xmo l a b≤4611686018427387904))) (br (decide (0≤xmp l a b)&&decide (xmp l a b≤l.length)) (br (xmo l a b==(xtn l a b).length&&(decide (xmn l a b*16≤140737488355328)&&decide (xmn l a b≤4611686018427387904))) (br (decide (0+xmn l a b≤(xtm l a b).length)&&true) (κ (List.take (xmn l a b) (List.drop 0 (xtm l a b)))) δ) δ) δ) δ) δ
def xjS (l:LA) (a b:Int):Option (LA):=xqD l a b none some
theorem xLp (l:LA) (a b:Int):Enc (fun (p:LA)=>((AV.list 2 p):AV)) (xjS l a b) (XF Tryz.prog xmm Tryz.f75 (Tryz.f75.body.getD .skip) [AV.list 2 l,AV.agg [AV.int .i64 a,AV.int .i64 b]]):=by
 refine eV (xqD l a b none (fun (p:LA)=>some ((AV.list 2 p):AV))) (by kernel_rfl) ?_;unfold xjS xqD;repeat' first|exact eN|exact eS rfl|apply eB
def xBv:LA→Option (Bool×AV):=ocOf (sCons (sList 2 pAny) (sCons (sAgg (sCons (sEq (pInt .i64)) (sCons (sEq (pInt .i64)) sNil))) sNil)) fun (l,((a,(b,_)),_))=>((xjS l a b).isSome,(AV.list 2 ((xjS l a b).getD [])))
theorem xLo:OcOk Tryz.prog ITryz 75 (xBv):=xaL fun c h e=>by
 obtain ⟨l,⟨⟨f,⟨g,_⟩⟩,_⟩⟩:=c
 obtain ⟨a,b⟩:=Prod.mk.inj e
 refine xaI (p:=xmm.pin) (xaK mxTryz (inv0Ok Tryz.prog _) rfl xEN Tryz.func75 rfl (by kernel_rfl) xBT ((xLp _ _ _ _ (xab (d:=[]) a)).trans ?_))
 exact congrArg some b
def xCv:Env:=xHb.with 75 xBv
theorem xww:OrcOk Tryz.prog ITryz xCv:=xCu.with xLo
def xiI:Env:=xCv.fn 31 0 (lsOf []) (lpsOf [])
theorem xDi:OrcOk Tryz.prog (ITryz.at 0) xiI:=xww.fn
theorem xyB:LoOk Tryz.prog (ITryz.at xiI.pin) xiI (loopAt Tryz.f48 1):=xaq (by kernel_rfl)
def xjn {T:Type} (l:LA) (n:Int) (a b:LA) (i:Int) (δ:T) (κl:(LA×Int)→T) (κr:(LA)→T):T:=br (decide (i<a.length)) (br (decide (0≤i)&&decide (i<a.length)) (br (decide (i.toNat<a.length)&&((a.getD i.toNat .top).cells.length==2&&hasShs [Sh.int .i64,Sh.int .i64] (a.getD i.toNat .top).cells 0)) (br ((xjS b ((a.getD i.toNat .top).cells.getD 0 .top).toInt ((a.getD i.toNat .top).cells.getD 1 .top).toInt).isSome) (κl ((xjS b ((a.getD i.toNat .top).cells.getD 0 .top).toInt ((a.getD i.toNat .top).cells.getD 1 .top).toInt).getD [],i64.wrap (i+1))) δ) δ) δ) (κr (b))
def xbW (l:LA) (n:Int) (b:LA):(LA×Int)→Option ((LA×Int)⊕(LA)):=fun (a,i)=>xjn l n b a i none (fun s=>some (.inl s)) (fun p=>some (.inr p))
def xhd (l:LA) (n:Int) (b:LA):(LA×Int)→LA×List Box:=fun (a,i)=>([AV.list 2 l,AV.list 2 a,AV.int .i64 n,AV.list 2 b,AV.int .i64 i],[])
def xfP (l:LA) (n:Int) (a:LA):(LA)→LR:=fun p=>(.leaf (.exit 2) [AV.list 2 l,AV.list 2 p,AV.int .i64 n] [])
abbrev xEK (a:LA) (H:List Box):=XR Tryz.prog xiI [0,3,4,5,6] [0,3,4] [(3,2,1073741824)] (loopAt Tryz.f48 1) a H
theorem xEL (l:LA) (n:Int) (a:LA) (s:LA×Int):Enc (encR (xhd l n a) (xfP l n a)) (xbW l n a s) (xEK (xhd l n a s).1 (xhd l n a s).2):=by
 obtain ⟨b,i⟩:=s
 refine eV (xjn l n a b i none (fun s=>some (encR (xhd l n a) (xfP l n a) (.inl s))) (fun p=>some (encR (xhd l n a) (xfP l n a) (.inr p)))) (by kernel_rfl) ?_;unfold xbW xjn;repeat' first|exact eN|exact eS rfl|apply eB
def xoz:Lp:=lpOf [0,3,4,5,6] [0,3,4] [(3,2,1073741824)] (pCons (pList 2 pAny) (pCons (pList 2 pAny) (pCons (pInt .i64) (pCons (pList 2 pAny) (pCons (pInt .i64) pNil))))) pNil fun (l,(a,(n,(b,(i,_))))) _=>((Iter (xbW l n b) (a,i)).isSome,xfP l n b ((Iter (xbW l n b) (a,i)).getD []))
theorem xta:LoopOk Tryz.prog (ITryz.at xiI.pin) xiI.nt (loopAt Tryz.f48 1) xoz:=xaP fun d f g e=>by
 obtain ⟨l,⟨b,⟨n,⟨a,⟨i,_⟩⟩⟩⟩⟩:=d
 obtain ⟨c,rfl⟩:=Prod.mk.inj e
 exact xar mxTryz (inv0Ok Tryz.prog _) rfl xDi xyB (xhd l n a) (xfP l n a) (fun p=>by simp only [xfP,LR.eval];first|(simp;done)|(repeat' split<;>simp)) (xEL l n a) (s:=(b,i)) (xab c)
def xiJ:Env:=xCv.fn 31 0 (lsOf []) (lpsOf [(9,xoz)])
theorem xDj:OrcOk Tryz.prog (ITryz.at 0) xiJ:=xww.fn
theorem xyC:LoOk Tryz.prog (ITryz.at xiJ.pin) xiJ (loopAt Tryz.f48 0):=xaM (ls:=[loopAt Tryz.f48 1]) (by kernel_rfl) (lkC xta lkN)
def xjm {T:Type} (l a:LA) (n:Int) (δ:T) (κl:(LA×Int)→T) (κr:(Bool×(LA×LA)×(LA))→T):T:=br (decide (n≤1048576)) (br ((xbr l n).isSome) (br ((↑((xbr l n).getD []).length:Int)==0) (κr (true,(a,a),[])) (br ((Iter (xbW l n ((xbr l n).getD [])) (a,0)).isSome) (κl ((Iter (xbW l n ((xbr l n).getD [])) (a,0)).getD [],i64.wrap (n+1))) δ)) δ) (κr (false,([],[]),(a)))
def xbV (l:LA):(LA×Int)→Option ((LA×Int)⊕(Bool×(LA×LA)×(LA))):=fun (a,n)=>xjm l a n none (fun s=>some (.inl s)) (fun p=>some (.inr p))
def xhc (l:LA):(LA×Int)→LA×List Box:=fun (a,n)=>([AV.list 2 l,AV.list 2 a,AV.int .i64 n],[])
def xfO (l:LA):(Bool×(LA×LA)×(LA))→LR:=fun p=>(.node p.1 (.leaf .ret [AV.list 2 p.2.1.1,AV.list 2 p.2.1.2] []) (.leaf (.exit 0) [.top,AV.list 2 p.2.2] []))
abbrev xEI (a:LA) (H:List Box):=XR Tryz.prog xiJ [0,3,4] [2,3] [(3,2,1073741824)] (loopAt Tryz.f48 0) a H
theorem xEJ (l:LA) (s:LA×Int):Enc (encR (xhc l) (xfO l)) (xbV l s) (xEI (xhc l s).1 (xhc l s).2):=by
 obtain ⟨a,n⟩:=s
 refine eV (xjm l a n none (fun s=>some (encR (xhc l) (xfO l) (.inl s))) (fun p=>some (encR (xhc l) (xfO l) (.inr p)))) (by kernel_rfl) ?_;unfold xbV xjm;repeat' first|exact eN|exact eS rfl|apply eB
def xtZ:Lp:=lpOf [0,3,4] [2,3] [(3,2,1073741824)] (pCons (pList 2 pAny) (pCons (pList 2 pAny) (pCons (pInt .i64) pNil))) pNil fun (l,(a,(n,_))) _=>((Iter (xbV l) (a,n)).isSome,xfO l ((Iter (xbV l) (a,n)).getD (false,([],[]),[])))
theorem xBS:LoopOk Tryz.prog (ITryz.at xiJ.pin) xiJ.nt (loopAt Tryz.f48 0) xtZ:=xaP fun c e f d=>by
 obtain ⟨l,⟨a,⟨n,_⟩⟩⟩:=c
 obtain ⟨b,rfl⟩:=Prod.mk.inj d
 exact xar mxTryz (inv0Ok Tryz.prog _) rfl xDj xyC (xhc l) (xfO l) (fun p=>by simp only [xfO,LR.eval];first|(simp;done)|(repeat' split<;>simp)) (xEJ l) (s:=(a,n)) (xab b)
def xlc:Env:=xCv.fn 31 0 (lsOf []) (lpsOf [(9,xoz),(3,xtZ)])
theorem xDk:OrcOk Tryz.prog (ITryz.at 0) xlc:=xww.fn
theorem xAP:LoOk Tryz.prog (ITryz.at xlc.pin) xlc (Tryz.f48.body.getD .skip):=xaM (ls:=[loopAt Tryz.f48 0,loopAt Tryz.f48 1]) (by kernel_rfl) (lkC xBS (lkC xta lkN))
def xrY (l:LA):=(Iter (xbV l) ([],1)).getD (false,([],[]),[])
def xrX (l:LA):=(xrY l).snd
def xpl {T:Type} (l:LA) (δ:T) (κ:LA→T):T:=br ((Iter (xbV l) ([],1)).isSome) (br ((xrY l).fst) (κ ((xrX l).fst.fst)) (κ ((xrX l).snd))) δ
def xdA (l:LA):Option (LA):=xpl l none some
theorem xJo (l:LA):Enc (fun (p:LA)=>((AV.list 2 p):AV)) (xdA l) (XF Tryz.prog xlc Tryz.f48 (Tryz.f48.body.getD .skip) [AV.list 2 l]):=by
 refine eV (xpl l none (fun (p:LA)=>some ((AV.list 2 p):AV))) (by kernel_rfl) ?_;unfold xdA xpl;repeat' first|exact eN|exact eS rfl|apply eB
def xzM:LA→Option (Bool×AV):=ocOf (sCons (sList 2 pAny) sNil) fun (l,_)=>((xdA l).isSome,(AV.list 2 ((xdA l).getD [])))
theorem xJn:OcOk Tryz.prog ITryz 48 (xzM):=xaL fun c f e=>by
 obtain ⟨l,_⟩:=c
 obtain ⟨a,b⟩:=Prod.mk.inj e
 refine xaI (p:=xlc.pin) (xaK mxTryz (inv0Ok Tryz.prog _) rfl xDk Tryz.func48 rfl (by kernel_rfl) xAP ((xJo _ _ (xab (d:=[]) a)).trans ?_))
 exact congrArg some b
def xQI:Env:=xCv.with 48 xzM
theorem xQJ:OrcOk Tryz.prog ITryz xQI:=xww.with xJn
abbrev EKR2:Env:=xQI
theorem xIV:OrcOk Tryz.prog ITryz EKR2:=xQJ
end Go.Sim.M
end
noncomputable section
set_option maxRecDepth 100000
namespace Go.Sim.M
open Go.IntKind (i64 u64 u8)
open Go.RowKit Go.Proofs
def xiQ:Env:=EKR2.fn 23 0 (lsOf []) (lpsOf [])
theorem xDF:OrcOk Tryz.prog (ITryz.at 0) xiQ:=xIV.fn
theorem xyJ:LoOk Tryz.prog (ITryz.at xiQ.pin) xiQ (loopAt Tryz.f47 0):=xaq (by kernel_rfl)
def xjq {T:Type} (d c:LA) (a:Nat) (i:Int) (b:LA) (δ:T) (κl:(Nat×Int×LA)→T) (κr:(Nat×LA)→T):T:=br (decide (i<c.length)) (br (decide (0≤i)&&decide (i<c.length)) (br (decide (i.toNat<c.length)&&((c.getD i.toNat .top).cells.length==2&&hasShs [Sh.int .i64,Sh.int .i64] (c.getD i.toNat .top).cells 0)) (br (a==b.length&&(decide ((a+1)*40≤140737488355328)&&decide (a+1≤4611686018427387904))) (κl (a+1,i64.wrap (i+1),b++[AV.agg [AV.list 3 d,AV.int .i64 ((c.getD i.toNat .top).cells.getD 0 .top).toInt,AV.int .i64 ((c.getD i.toNat .top).cells.getD 1 .top).toInt]])) δ) δ) δ) (κr (a,b))
def xbX (c d:LA):(Nat×Int×LA)→Option ((Nat×Int×LA)⊕(Nat×LA)):=fun (b,i,a)=>xjq c d b i a none (fun s=>some (.inl s)) (fun p=>some (.inr p))
def xhi (c d:LA):(Nat×Int×LA)→LA×List Box:=fun (b,i,a)=>([AV.list 3 c,AV.list 2 d,AV.osl 0 0 0 b,AV.int .i64 i],[⟨0,3,42,a,false,true⟩])
def xfW (a b:LA):(Nat×LA)→LR:=fun p=>(.leaf (.exit 0) [AV.osl 0 0 0 p.1] [⟨0,3,42,p.2,false,true⟩])
abbrev xE0 (a:LA) (H:List Box):=XR Tryz.prog xiQ [0,1,5,6] [5] [(5,3,42)] (loopAt Tryz.f47 0) a H
theorem xE1 (a b:LA) (s:Nat×Int×LA):Enc (encR (xhi a b) (xfW a b)) (xbX a b s) (xE0 (xhi a b s).1 (xhi a b s).2):=by
 obtain ⟨d,i,c⟩:=s
 refine eV (xjq a b d i c none (fun s=>some (encR (xhi a b) (xfW a b) (.inl s))) (fun p=>some (encR (xhi a b) (xfW a b) (.inr p)))) (by kernel_rfl) ?_;unfold xbX xjq;repeat' first|exact eN|exact eS rfl|apply eB
def xt7:Lp:=lpOf [0,1,5,6] [5] [(5,3,42)] (pCons (pList 3 pAny) (pCons (pList 2 pAny) (pCons (pOsl 0 0 0) (pCons (pInt .i64) pNil)))) (pCons (pBox 0 3 42 false true pAny) pNil) fun (c,(d,(b,(i,_)))) (a,_)=>((Iter (xbX c d) (b,i,a)).isSome,xfW c d ((Iter (xbX c d) (b,i,a)).getD (0,[])))
theorem xB5:LoopOk Tryz.prog (ITryz.at xiQ.pin) xiQ.nt (loopAt Tryz.f47 0) xt7:=xaP fun f g j h=>by
 obtain ⟨a,⟨d,⟨c,⟨i,_⟩⟩⟩⟩:=f
 obtain ⟨b,_⟩:=g
 obtain ⟨e,rfl⟩:=Prod.mk.inj h
 exact xar mxTryz (inv0Ok Tryz.prog _) rfl xDF xyJ (xhi a d) (xfW a d) (fun p=>by simp only [xfW,LR.eval];first|(simp;done)|(repeat' split<;>simp)) (xE1 a d) (s:=(c,i,b)) (xab e)
def xlg:Env:=EKR2.fn 23 0 (lsOf []) (lpsOf [(3,xt7)])
theorem xDG:OrcOk Tryz.prog (ITryz.at 0) xlg:=xIV.fn
theorem xAW:LoOk Tryz.prog (ITryz.at xlg.pin) xlg (Tryz.f47.body.getD .skip):=xaM (ls:=[loopAt Tryz.f47 0]) (by kernel_rfl) (lkC xB5 lkN)
def xsd (a b:LA):=(Iter (xbX a b) (0,0,[])).getD (0,[])
def xsb (a b:LA):=(xsd a b).snd
def xsc (a b:LA):=(xsd a b).fst
def xpq {T:Type} (a b:LA) (δ:T) (κ:LA→T):T:=br ((Iter (xbX a b) (0,0,[])).isSome) (br (decide (0+xsc a b≤(xsb a b).length)&&true) (κ (List.take (xsc a b) (List.drop 0 (xsb a b)))) δ) δ
def xeS (a b:LA):Option (LA):=xpq a b none some
theorem xJE (a b:LA):Enc (fun (p:LA)=>((AV.list 3 p):AV)) (xeS a b) (XF Tryz.prog xlg Tryz.f47 (Tryz.f47.body.getD .skip) [AV.list 3 a,AV.list 2 b]):=by
 refine eV (xpq a b none (fun (p:LA)=>some ((AV.list 3 p):AV))) (by kernel_rfl) ?_;unfold xeS xpq;repeat' first|exact eN|exact eS rfl|apply eB
def xzx:LA→Option (Bool×AV):=ocOf (sCons (sList 3 pAny) (sCons (sList 2 pAny) sNil)) fun (a,(b,_))=>((xeS a b).isSome,(AV.list 3 ((xeS a b).getD [])))
theorem xJD:OcOk Tryz.prog ITryz 47 (xzx):=xaL fun c g e=>by
 obtain ⟨f,⟨h,_⟩⟩:=c
 obtain ⟨a,b⟩:=Prod.mk.inj e
 refine xaI (p:=xlg.pin) (xaK mxTryz (inv0Ok Tryz.prog _) rfl xDG Tryz.func47 rfl (by kernel_rfl) xAW ((xJE _ _ _ (xab (d:=[]) a)).trans ?_))
 exact congrArg some b
def xHc:Env:=EKR2.with 47 xzx
theorem xCw:OrcOk Tryz.prog ITryz xHc:=xIV.with xJD
def xmv:Env:=xHc.fn 29 0 (lsOf []) (lpsOf [])
theorem xH9:OrcOk Tryz.prog (ITryz.at 0) xmv:=xCw.fn
theorem xB3:LoOk Tryz.prog (ITryz.at xmv.pin) xmv (loopAt Tryz.f15 0):=xaq (by kernel_rfl)
def xnY (g:LA) (a:Nat) (i:Int):=a+((xeS ((g.getD i.toNat .top).cells.getD 0 .top).toList ((xdA ((g.getD i.toNat .top).cells.getD 1 .top).toList).getD [])).getD []).length
def xmw {T:Type} (g:LA) (a:Nat) (i:Int) (b:LA) (δ:T) (κl:(Nat×Int×LA)→T) (κr:(Nat×LA)→T):T:=br (decide (i<g.length)) (br (decide (0≤i)&&decide (i<g.length)) (br (decide (i.toNat<g.length)&&hasSh1 (Sh.list 3) ((g.getD i.toNat .top).cells.getD 0 .top)) (br (decide (0≤i)&&decide (i<g.length)) (br (decide (i.toNat<g.length)&&hasSh1 (Sh.list 2) ((g.getD i.toNat .top).cells.getD 1 .top)) (br ((xdA ((g.getD i.toNat .top).cells.getD 1 .top).toList).isSome) (br ((xeS ((g.getD i.toNat .top).cells.getD 0 .top).toList ((xdA ((g.getD i.toNat .top).cells.getD 1 .top).toList).getD [])).isSome) (br (a==b.length&&(decide (xnY g a i*40≤140737488355328)&&decide (xnY g a i≤4611686018427387904))) (κl (xnY g a i,i64.wrap (i+1),b++(xeS ((g.getD i.toNat .top).cells.getD 0 .top).toList ((xdA ((g.getD i.toNat .top).cells.getD 1 .top).toList).getD [])).getD [])) δ) δ) δ) δ) δ) δ) δ) (κr (a,b))
def xdt (g:LA):(Nat×Int×LA)→Option ((Nat×Int×LA)⊕(Nat×LA)):=fun (b,i,a)=>xmw g b i a none (fun s=>some (.inl s)) (fun p=>some (.inr p))
def xjx (g:LA):(Nat×Int×LA)→LA×List Box:=fun (b,i,a)=>([AV.list 2 g,AV.osl 0 0 0 b,AV.int .i64 i],[⟨0,3,42,a,false,true⟩])
def xh9 (g:LA):(Nat×LA)→LR:=fun p=>(.leaf (.exit 0) [AV.osl 0 0 0 p.1] [⟨0,3,42,p.2,false,true⟩])
abbrev xJz (a:LA) (H:List Box):=XR Tryz.prog xmv [3,4,5] [4] [(4,3,42)] (loopAt Tryz.f15 0) a H
theorem xJA (g:LA) (s:Nat×Int×LA):Enc (encR (xjx g) (xh9 g)) (xdt g s) (xJz (xjx g s).1 (xjx g s).2):=by
 obtain ⟨b,i,a⟩:=s
 refine eV (xmw g b i a none (fun s=>some (encR (xjx g) (xh9 g) (.inl s))) (fun p=>some (encR (xjx g) (xh9 g) (.inr p)))) (by kernel_rfl) ?_;unfold xdt xmw;repeat' first|exact eN|exact eS rfl|apply eB
def xwT:Lp:=lpOf [3,4,5] [4] [(4,3,42)] (pCons (pList 2 pAny) (pCons (pOsl 0 0 0) (pCons (pInt .i64) pNil))) (pCons (pBox 0 3 42 false true pAny) pNil) fun (g,(b,(i,_))) (a,_)=>((Iter (xdt g) (b,i,a)).isSome,xh9 g ((Iter (xdt g) (b,i,a)).getD (0,[])))
theorem xGI:LoopOk Tryz.prog (ITryz.at xmv.pin) xmv.nt (loopAt Tryz.f15 0) xwT:=xaP fun d e h f=>by
 obtain ⟨g,⟨b,⟨i,_⟩⟩⟩:=d
 obtain ⟨a,_⟩:=e
 obtain ⟨c,rfl⟩:=Prod.mk.inj f
 exact xar mxTryz (inv0Ok Tryz.prog _) rfl xH9 xB3 (xjx g) (xh9 g) (fun p=>by simp only [xh9,LR.eval];first|(simp;done)|(repeat' split<;>simp)) (xJA g) (s:=(b,i,a)) (xab c)
def xoC:Env:=xHc.fn 29 0 (lsOf []) (lpsOf [(4,xwT)])
theorem xIa:OrcOk Tryz.prog (ITryz.at 0) xoC:=xCw.fn
theorem xEW:LoOk Tryz.prog (ITryz.at xoC.pin) xoC (Tryz.f15.body.getD .skip):=xaM (ls:=[loopAt Tryz.f15 0]) (by kernel_rfl) (lkC xGI lkN)
def xvR (l:LA):=(Iter (xdt ((xd0 l).getD [])) (0,0,[])).getD (0,[])
def xvP (l:LA):=(xvR l).fst
def xvQ (l:LA):=(xvR l).snd
def xtK {T:Type} (l:LA) (δ:T) (κ:LA→T):T:=br ((xd0 l).isSome) (br ((Iter (xdt ((xd0 l).getD [])) (0,0,[])).isSome) (br (decide (0+xvP l≤(xvQ l).length)&&true) (κ (List.take (xvP l) (List.drop 0 (xvQ l)))) δ) δ) δ
def xgB (l:LA):Option (LA):=xtK l none some
theorem xNx (l:LA):Enc (fun (p:LA)=>((AV.list 3 p):AV)) (xgB l) (XF Tryz.prog xoC Tryz.f15 (Tryz.f15.body.getD .skip) [AV.list 3 l]):=by
 refine eV (xtK l none (fun (p:LA)=>some ((AV.list 3 p):AV))) (by kernel_rfl) ?_;unfold xgB xtK;repeat' first|exact eN|exact eS rfl|apply eB
def xFO:LA→Option (Bool×AV):=ocOf (sCons (sList 3 pAny) sNil) fun (l,_)=>((xgB l).isSome,(AV.list 3 ((xgB l).getD [])))
theorem xNZ:OcOk Tryz.prog ITryz 15 (xFO):=xaL fun c f e=>by
 obtain ⟨l,_⟩:=c
 obtain ⟨a,b⟩:=Prod.mk.inj e
 refine xaI (p:=xoC.pin) (xaK mxTryz (inv0Ok Tryz.prog _) rfl xIa Tryz.func15 rfl (by kernel_rfl) xEW ((xNx _ _ (xab (d:=[]) a)).trans ?_))
 exact congrArg some b
def xHd:Env:=xHc.with 15 xFO
theorem xCy:OrcOk Tryz.prog ITryz xHd:=xCw.with xNZ
def xmA:Env:=xHd.fn 29 0 (lsOf []) (lpsOf [])
theorem xIf:OrcOk Tryz.prog (ITryz.at 0) xmA:=xCy.fn
theorem xB8:LoOk Tryz.prog (ITryz.at xmA.pin) xmA (loopAt Tryz.f17 0):=xaq (by kernel_rfl)
def xsf (g:LA) (i:Int):=(xeS ((g.getD i.toNat .top).cells.getD 0 .top).toList ((xbr ((g.getD i.toNat .top).cells.getD 1 .top).toList 1).getD [])).getD []
def xnZ (g:LA) (a:Nat) (i:Int):=a+(xsf g i).length
def xmB {T:Type} (g:LA) (a:Nat) (i:Int) (b:LA) (δ:T) (κl:(Nat×Int×LA)→T) (κr:(Nat×LA)→T):T:=br (decide (i<g.length)) (br (decide (0≤i)&&decide (i<g.length)) (br (decide (i.toNat<g.length)&&hasSh1 (Sh.list 3) ((g.getD i.toNat .top).cells.getD 0 .top)) (br (decide (0≤i)&&decide (i<g.length)) (br (decide (i.toNat<g.length)&&hasSh1 (Sh.list 2) ((g.getD i.toNat .top).cells.getD 1 .top)) (br ((xbr ((g.getD i.toNat .top).cells.getD 1 .top).toList 1).isSome) (br ((xeS ((g.getD i.toNat .top).cells.getD 0 .top).toList ((xbr ((g.getD i.toNat .top).cells.getD 1 .top).toList 1).getD [])).isSome) (br (a==b.length&&(decide (xnZ g a i*40≤140737488355328)&&decide (xnZ g a i≤4611686018427387904))) (κl (xnZ g a i,i64.wrap (i+1),b++xsf g i)) δ) δ) δ) δ) δ) δ) δ) (κr (a,b))
def xdu (g:LA):(Nat×Int×LA)→Option ((Nat×Int×LA)⊕(Nat×LA)):=fun (b,i,a)=>xmB g b i a none (fun s=>some (.inl s)) (fun p=>some (.inr p))
def xj1 (g:LA):(Nat×Int×LA)→LA×List Box:=fun (b,i,a)=>([AV.list 2 g,AV.osl 0 0 0 b,AV.int .i64 i],[⟨0,3,42,a,false,true⟩])
def xib (g:LA):(Nat×LA)→LR:=fun p=>(.leaf (.exit 0) [AV.osl 0 0 0 p.1] [⟨0,3,42,p.2,false,true⟩])
abbrev xJJ (a:LA) (H:List Box):=XR Tryz.prog xmA [3,4,5] [4] [(4,3,42)] (loopAt Tryz.f17 0) a H
theorem xJK (g:LA) (s:Nat×Int×LA):Enc (encR (xj1 g) (xib g)) (xdu g s) (xJJ (xj1 g s).1 (xj1 g s).2):=by
 obtain ⟨b,i,a⟩:=s
 refine eV (xmB g b i a none (fun s=>some (encR (xj1 g) (xib g) (.inl s))) (fun p=>some (encR (xj1 g) (xib g) (.inr p)))) (by kernel_rfl) ?_;unfold xdu xmB;repeat' first|exact eN|exact eS rfl|apply eB
def xwV:Lp:=lpOf [3,4,5] [4] [(4,3,42)] (pCons (pList 2 pAny) (pCons (pOsl 0 0 0) (pCons (pInt .i64) pNil))) (pCons (pBox 0 3 42 false true pAny) pNil) fun (g,(b,(i,_))) (a,_)=>((Iter (xdu g) (b,i,a)).isSome,xib g ((Iter (xdu g) (b,i,a)).getD (0,[])))
theorem xGM:LoopOk Tryz.prog (ITryz.at xmA.pin) xmA.nt (loopAt Tryz.f17 0) xwV:=xaP fun d e h f=>by
 obtain ⟨g,⟨b,⟨i,_⟩⟩⟩:=d
 obtain ⟨a,_⟩:=e
 obtain ⟨c,rfl⟩:=Prod.mk.inj f
 exact xar mxTryz (inv0Ok Tryz.prog _) rfl xIf xB8 (xj1 g) (xib g) (fun p=>by simp only [xib,LR.eval];first|(simp;done)|(repeat' split<;>simp)) (xJK g) (s:=(b,i,a)) (xab c)
def xoE:Env:=xHd.fn 29 0 (lsOf []) (lpsOf [(4,xwV)])
theorem xIg:OrcOk Tryz.prog (ITryz.at 0) xoE:=xCy.fn
theorem xE8:LoOk Tryz.prog (ITryz.at xoE.pin) xoE (Tryz.f17.body.getD .skip):=xaM (ls:=[loopAt Tryz.f17 0]) (by kernel_rfl) (lkC xGM lkN)
def xvV (l:LA):=(Iter (xdu ((xd0 l).getD [])) (0,0,[])).getD (0,[])
def xvT (l:LA):=(xvV l).snd
def xvU (l:LA):=(xvV l).fst
def xtM {T:Type} (l:LA) (δ:T) (κ:LA→T):T:=br ((xd0 l).isSome) (br ((Iter (xdu ((xd0 l).getD [])) (0,0,[])).isSome) (br (decide (0+xvU l≤(xvT l).length)&&true) (κ (List.take (xvU l) (List.drop 0 (xvT l)))) δ) δ) δ
def xlk (l:LA):Option (LA):=xtM l none some
theorem xN3 (l:LA):Enc (fun (p:LA)=>((AV.list 3 p):AV)) (xlk l) (XF Tryz.prog xoE Tryz.f17 (Tryz.f17.body.getD .skip) [AV.list 3 l]):=by
 refine eV (xtM l none (fun (p:LA)=>some ((AV.list 3 p):AV))) (by kernel_rfl) ?_;unfold xlk xtM;repeat' first|exact eN|exact eS rfl|apply eB
def xFQ:LA→Option (Bool×AV):=ocOf (sCons (sList 3 pAny) sNil) fun (l,_)=>((xlk l).isSome,(AV.list 3 ((xlk l).getD [])))
theorem xN2:OcOk Tryz.prog ITryz 17 (xFQ):=xaL fun c f e=>by
 obtain ⟨l,_⟩:=c
 obtain ⟨a,b⟩:=Prod.mk.inj e
 refine xaI (p:=xoE.pin) (xaK mxTryz (inv0Ok Tryz.prog _) rfl xIg Tryz.func17 rfl (by kernel_rfl) xE8 ((xN3 _ _ (xab (d:=[]) a)).trans ?_))
 exact congrArg some b
def xMg:Env:=xHd.with 17 xFQ
theorem xKp:OrcOk Tryz.prog ITryz xMg:=xCy.with xN2
def xil:Env:=xMg.fn 7 0 (lsOf []) (lpsOf [])
theorem xzY:OrcOk Tryz.prog (ITryz.at 0) xil:=xKp.fn
theorem xwn:LoOk Tryz.prog (ITryz.at xil.pin) xil (Tryz.f19.body.getD .skip):=xaq (by kernel_rfl)
def xma {T:Type} (l:LA) (δ:T) (κ:Bool→T):T:=br ((xgB l).isSome) (br ((xcf l ((xgB l).getD [])).isSome) (κ ((xcf l ((xgB l).getD [])).getD false)) δ) δ
def xfn (l:LA):Option (Bool):=xma l none some
theorem xEY (l:LA):Enc (fun (p:Bool)=>((AV.bool p):AV)) (xfn l) (XF Tryz.prog xil Tryz.f19 (Tryz.f19.body.getD .skip) [AV.list 3 l]):=by
 refine eV (xma l none (fun (p:Bool)=>some ((AV.bool p):AV))) (by kernel_rfl) ?_;unfold xfn xma;repeat' first|exact eN|exact eS rfl|apply eB
def xuZ:LA→Option (Bool×AV):=ocOf (sCons (sList 3 pAny) sNil) fun (l,_)=>((xfn l).isSome,(AV.bool ((xfn l).getD false)))
theorem xEX:OcOk Tryz.prog ITryz 19 (xuZ):=xaL fun c f e=>by
 obtain ⟨l,_⟩:=c
 obtain ⟨a,b⟩:=Prod.mk.inj e
 refine xaI (p:=xil.pin) (xaK mxTryz (inv0Ok Tryz.prog _) rfl xzY Tryz.func19 rfl (by kernel_rfl) xwn ((xEY _ _ (xab (d:=false) a)).trans ?_))
 exact congrArg some b
def xHe:Env:=xMg.with 19 xuZ
theorem xCz:OrcOk Tryz.prog ITryz xHe:=xKp.with xEX
def xiR:Env:=xHe.fn 42 0 (lsOf []) (lpsOf [])
theorem xDH:OrcOk Tryz.prog (ITryz.at 0) xiR:=xCz.fn
theorem xyL:LoOk Tryz.prog (ITryz.at xiR.pin) xiR (loopAt Tryz.f22 0):=xaq (by kernel_rfl)
def xgD (l:LA) (i:Int):=decide (0≤i)&&decide (i<l.length)
def xjr {T:Type} (l a:LA) (i:Int) (δ:T) (κl:(LA×Int)→T) (κr:(LA)→T):T:=br (decide (i<l.length)) (br (xgD l i) (br (decide (i.toNat<l.length)&&((l.getD i.toNat .top).cells.length==3&&hasShs [Sh.int .i64,Sh.int .i64] (l.getD i.toNat .top).cells 1)) (br (xgI ((l.getD i.toNat .top).cells.getD 1 .top).toInt ((l.getD i.toNat .top).cells.getD 2 .top).toInt) (br (xgD l i) (br (decide (i.toNat<l.length)&&hasSh1 (Sh.int .i64) ((l.getD i.toNat .top).cells.getD 1 .top)) (br ((xb6 a ((l.getD i.toNat .top).cells.getD 1 .top).toInt).isSome) (br (xgD l i) (br (decide (i.toNat<l.length)&&hasSh1 (Sh.int .i64) ((l.getD i.toNat .top).cells.getD 2 .top)) (br (decide (((l.getD i.toNat .top).cells.getD 2 .top).toInt<1099511627776)) (br (xgD l i) (br (decide (i.toNat<l.length)&&hasSh1 (Sh.int .i64) ((l.getD i.toNat .top).cells.getD 2 .top)) (br ((xb6 ((xb6 a ((l.getD i.toNat .top).cells.getD 1 .top).toInt).getD []) ((l.getD i.toNat .top).cells.getD 2 .top).toInt).isSome) (κl ((xb6 ((xb6 a ((l.getD i.toNat .top).cells.getD 1 .top).toInt).getD []) ((l.getD i.toNat .top).cells.getD 2 .top).toInt).getD [],i64.wrap (i+1))) δ) δ) δ) (κl ((xb6 a ((l.getD i.toNat .top).cells.getD 1 .top).toInt).getD [],i64.wrap (i+1)))) δ) δ) δ) δ) δ) (κl (a,i64.wrap (i+1)))) δ) δ) (κr (a))
def xcF (l:LA):(LA×Int)→Option ((LA×Int)⊕(LA)):=fun (a,i)=>xjr l a i none (fun s=>some (.inl s)) (fun p=>some (.inr p))
def xhj (l:LA):(LA×Int)→LA×List Box:=fun (a,i)=>([AV.list 3 l,AV.list 1 a,AV.int .i64 i],[])
def xfX (l:LA):(LA)→LR:=fun p=>(.leaf (.exit 0) [AV.list 1 p] [])
abbrev xE5 (a:LA) (H:List Box):=XR Tryz.prog xiR [0,3,4] [3] [(3,1,1073741824)] (loopAt Tryz.f22 0) a H
theorem xE6 (l:LA) (s:LA×Int):Enc (encR (xhj l) (xfX l)) (xcF l s) (xE5 (xhj l s).1 (xhj l s).2):=by
 obtain ⟨a,i⟩:=s
 refine eV (xjr l a i none (fun s=>some (encR (xhj l) (xfX l) (.inl s))) (fun p=>some (encR (xhj l) (xfX l) (.inr p)))) (by kernel_rfl) ?_;unfold xcF xjr;repeat' first|exact eN|exact eS rfl|apply eB
def xt8:Lp:=lpOf [0,3,4] [3] [(3,1,1073741824)] (pCons (pList 3 pAny) (pCons (pList 1 pAny) (pCons (pInt .i64) pNil))) pNil fun (l,(a,(i,_))) _=>((Iter (xcF l) (a,i)).isSome,xfX l ((Iter (xcF l) (a,i)).getD []))
theorem xB7:LoopOk Tryz.prog (ITryz.at xiR.pin) xiR.nt (loopAt Tryz.f22 0) xt8:=xaP fun c e f d=>by
 obtain ⟨l,⟨a,⟨i,_⟩⟩⟩:=c
 obtain ⟨b,rfl⟩:=Prod.mk.inj d
 exact xar mxTryz (inv0Ok Tryz.prog _) rfl xDH xyL (xhj l) (xfX l) (fun p=>by simp only [xfX,LR.eval];first|(simp;done)|(repeat' split<;>simp)) (xE6 l) (s:=(a,i)) (xab b)
def xlh:Env:=xHe.fn 42 0 (lsOf []) (lpsOf [(3,xt8)])
theorem xDI:OrcOk Tryz.prog (ITryz.at 0) xlh:=xCz.fn
theorem xAx:LoOk Tryz.prog (ITryz.at xlh.pin) xlh (Tryz.f22.body.getD .skip):=xaM (ls:=[loopAt Tryz.f22 0]) (by kernel_rfl) (lkC xB7 lkN)
def xpr {T:Type} (l:LA) (δ:T) (κ:LA→T):T:=br ((Iter (xcF l) ([AV.int .i64 0],0)).isSome) (κ ((Iter (xcF l) ([AV.int .i64 0],0)).getD [])) δ
def xgV (l:LA):Option (LA):=xpr l none some
theorem xJI (l:LA):Enc (fun (p:LA)=>((AV.list 1 p):AV)) (xgV l) (XF Tryz.prog xlh Tryz.f22 (Tryz.f22.body.getD .skip) [AV.list 3 l]):=by
 refine eV (xpr l none (fun (p:LA)=>some ((AV.list 1 p):AV))) (by kernel_rfl) ?_;unfold xgV xpr;repeat' first|exact eN|exact eS rfl|apply eB
def xz2:LA→Option (Bool×AV):=ocOf (sCons (sList 3 pAny) sNil) fun (l,_)=>((xgV l).isSome,(AV.list 1 ((xgV l).getD [])))
theorem xJH:OcOk Tryz.prog ITryz 22 (xz2):=xaL fun c f e=>by
 obtain ⟨l,_⟩:=c
 obtain ⟨a,b⟩:=Prod.mk.inj e
 refine xaI (p:=xlh.pin) (xaK mxTryz (inv0Ok Tryz.prog _) rfl xDI Tryz.func22 rfl (by kernel_rfl) xAx ((xJI _ _ (xab (d:=[]) a)).trans ?_))
 exact congrArg some b
def xQK:Env:=xHe.with 22 xz2
theorem xQL:OrcOk Tryz.prog ITryz xQK:=xCz.with xJH
abbrev xQM:Env:=xQK
theorem xQN:OrcOk Tryz.prog ITryz xQM:=xQL
abbrev xQO:Env:=xQM
theorem xQP:OrcOk Tryz.prog ITryz xQO:=xQN
abbrev xQQ:Env:=xQO
theorem xQR:OrcOk Tryz.prog ITryz xQQ:=xQP
abbrev xQS:Env:=xQQ
theorem xQT:OrcOk Tryz.prog ITryz xQS:=xQR
abbrev xOr:Env:=xQS
theorem xPp:OrcOk Tryz.prog ITryz xOr:=xQT
abbrev EKR3:Env:=xOr
theorem xTE:OrcOk Tryz.prog ITryz EKR3:=xPp
end Go.Sim.M
end
noncomputable section
set_option maxRecDepth 100000
namespace Go.Sim
def stepX (P:Program) (E:Env) (live liveO:List Nat) (conv:List (Nat×Nat×TypeId)) (c:Code) (s:List AV×List Box):Option ((List AV×List Box)⊕{r:Exit×List AV×List Box // r.1≠.normal}) :=
 match XR P E live liveO conv c s.1 s.2 with
 | some (.normal,v,H)=>some (.inl (v,H))
 | some (.exit i,v,H)=>some (.inr ⟨(.exit i,v,H),by simp⟩)
 | some (.ret,v,H)=>some (.inr ⟨(.ret,v,H),by simp⟩)
 | _=>none
def closedLp (P:Program) (E:Env) (live liveO:List Nat) (conv:List (Nat×Nat×TypeId)) (c:Code) (n:Nat):Lp:=⟨live,liveO,conv,fun vals H =>
 match iterN (stepX P E live liveO conv c) n (vals,H) with
 | some r=>some (true,.leaf r.1.1 r.1.2.1 r.1.2.2)
 | none=>none⟩
theorem xNG {P:Program} {Inv:IV} {E:Env} (hmx:P.follows .mixedOrders=true) (hIo:InvOk Inv) (hpin:Inv.pin=E.pin) (hor:OrcOk P Inv E) {c:Code} (hlo:LoOk P Inv E c) {live liveO:List Nat} {conv:List (Nat×Nat×TypeId)} {n:Nat} :
  LoopOk P Inv E.nt c (closedLp P E live liveO conv c n):=fun vals H r h=>by
 simp only [closedLp] at h
 split at h
 case h_2=>simp at h
 rename_i r0 hr
 simp only [Option.some.injEq,Prod.mk.injEq,true_and] at h
 subst h
 exact xar hmx hIo hpin hor hlo (σ:=List AV×List Box) (ρ:={r:Exit×List AV×List Box // r.1≠.normal}) (step:=stepX P E live liveO conv c) (fun s=>s) (fun r=>.leaf r.1.1 r.1.2.1 r.1.2.2) (fun r=>r.2)
  (fun s r hs=>by
   unfold stepX at hs
   split at hs<;>simp only [Option.some.injEq,reduceCtorEq] at hs
   all_goals (subst hs;rename_i hx;exact hx)) (s:=(vals,H)) (r:=r0) (xtj.2 ⟨n,hr⟩)
end Go.Sim
namespace Go.Sim.M
open Go.RowKit Go.Proofs
def mmA (g:FuncId):Bool:=([115,117,
 129,154,167,
 95,128,146,
 69,94,120,
 53,82,100,55,
 92,119,141,
 112,137,157,
 97,68,90,78]:List Nat).contains g
noncomputable def EA0:Env:={ E0 with ls:=lsOf [40,42,83],fuel:=1000 }
theorem xQi:OrcOk Tryz.prog ITryz EA0:=xO4
noncomputable def EAr:Env:={ Env.deep Tryz.prog mmA EA0 10 with pin:=0,nt:=60,ls:=lsOf [] }
theorem xQk:OrcOk Tryz.prog (ITryz.at 0) EAr:=xu9 mxTryz mmA (inv0Ok Tryz.prog 0) xQi (fun _=>rfl) 10
noncomputable def xQj:Lp:=closedLp Tryz.prog EAr [3,4,11,12,13] [4] [(4,2,133280301139)] (loopAt Tryz.f67 0) 100
noncomputable def EAr1:Env:={ EAr with lp:=lpsOf [(codeId (loopAt Tryz.f67 0),xQj)] }
theorem xTC:OrcOk Tryz.prog (ITryz.at 0) EAr1:=xQk
noncomputable def xJQ:List AV→Option (Bool×AV):=fun xs=>match XF Tryz.prog EAr1 Tryz.f67 (Tryz.f67.body.getD .skip) xs with
 | some r=>some (true,r)
 | none=>none
theorem xT7:OcOk Tryz.prog ITryz 67 xJQ:=fun xs r h=>by
 unfold xJQ at h
 split at h
 case h_2=>simp at h
 rename_i r0 hr
 simp only [Option.some.injEq,Prod.mk.injEq,true_and] at h
 subst h
 refine xaI (p:=0) (xaK mxTryz (inv0Ok Tryz.prog _) rfl xTC Tryz.func67 rfl (by kernel_rfl) (xaM (ls:=[loopAt Tryz.f67 0]) (by kernel_rfl) (fun l hl lp hs=>?_)) hr)
 simp only [List.mem_cons,List.not_mem_nil,or_false] at hl
 subst hl
 rw [show EAr1.lp (codeId (loopAt Tryz.f67 0))=some xQj by kernel_rfl] at hs
 simp only [Option.some.injEq] at hs
 subst hs
 exact xNG (E:=EAr) mxTryz (inv0Ok Tryz.prog _) rfl xQk (xtV fun _=>rfl)
noncomputable def EAs:Env:=EA0.with 67 xJQ
theorem xQl:OrcOk Tryz.prog ITryz EAs:=xQi.with xT7
noncomputable def EAd:Env:={ Env.deep Tryz.prog mmA EAs 14 with pin:=0 }
mutual
def eqV:AV→AV→Bool
 | .int k a,.int k' b=>decide (k=k')&&decide (a=b)
 | .bool a,.bool b=>a==b
 | .str a,.str b=>decide (a=b)
 | .list n a,.list m b=>Nat.beq n m&&eqVs a b
 | .agg a,.agg b=>eqVs a b
 | _,_=>false
def eqVs:List AV→List AV→Bool
 | [],[]=>true
 | a::l,b::m=>eqV a b&&eqVs l m
 | _,_=>false
end
mutual
theorem xUC:∀ (a b:AV),eqV a b=true→a=b:=fun a b h=>by
 cases a<;>cases b<;>first|(simp [eqV] at h;done)|skip
 all_goals simp only [eqV,Bool.and_eq_true,decide_eq_true_eq,beq_iff_eq] at h
 all_goals first|(rw [h.1,h.2];done)|(rw [h];done)|(rw [Nat.eq_of_beq_eq_true h.1,xEl _ _ h.2];done)|(rw [xEl _ _ h])
theorem xEl:∀ (a b:List AV),eqVs a b=true→a=b
 | [],[],_=>rfl
 | a::l,b::m,h=>by simp only [eqVs,Bool.and_eq_true] at h;rw [xUC a b h.1,xEl l m h.2]
 | [],_::_,h=>by simp [eqVs] at h
 | _::_,[],h=>by simp [eqVs] at h
end
def ptO (args:List AV) (r:AV):List AV→Option (Bool×AV):=fun xs=>match eqVs xs args with
 | true=>some (true,r)
 | false=>none
theorem xLO {P:Program} {Inv:IV} {f:FuncId} {args:List AV} {r:AV} (h:Good P Inv f args r):OcOk P Inv f (ptO args r):=fun xs r0 h0=>by
 unfold ptO at h0
 split at h0
 case h_2=>simp at h0
 rename_i he
 simp only [Option.some.injEq,Prod.mk.injEq,true_and] at h0
 subst h0
 rw [xEl _ _ he];exact h
theorem xwG {f:FuncId} {fn:Func} {args:List AV} {r:AV} (hf:Tryz.prog.funcs[f]?=some fn) (hb:fn.body.isSome=true) (hname:(fn.name == "runtime.NumGoroutine")=false) (h:XF Tryz.prog EAd fn (fn.body.getD .skip) args=some r):Good Tryz.prog ITryz f args r :=
 xaI (p:=0) (xaK mxTryz (inv0Ok Tryz.prog _) rfl (xwK (xu9 mxTryz mmA (inv0Ok Tryz.prog 0) xQl (fun _=>rfl) 14)) hf hb hname (xtV fun _=>rfl) h)
def fcA (a b:Int):AV:=.agg [.list 3 [.agg [.int .i64 1,.int .i64 1,.str []]],.int .i64 a,.int .i64 b]
def lA:AV:=.list 3 [fcA 0 5,fcA 5 8,fcA 2 3]
set_option maxRecDepth 100000 in
theorem xUu:XF Tryz.prog EAd Tryz.f14 (Tryz.f14.body.getD .skip) [lA]=some (.list 3 [fcA 0 8,fcA 2 3]):=by kernel_rfl
theorem xUV:XF Tryz.prog EAd Tryz.f16 (Tryz.f16.body.getD .skip) [lA]=some (.list 3 [fcA 0 8]):=by kernel_rfl
theorem xUt:OcOk Tryz.prog ITryz 14 (ptO [lA] (.list 3 [fcA 0 8,fcA 2 3])):=xLO (xwG Tryz.func14 rfl (by kernel_rfl) xUu)
theorem xUU:OcOk Tryz.prog ITryz 16 (ptO [lA] (.list 3 [fcA 0 8])):=xLO (xwG Tryz.func16 rfl (by kernel_rfl) xUV)
def resA:AV:=.list 3 [fcA 2 5,fcA 5 6,fcA 2 3]
theorem xUw:XF Tryz.prog EAd Tryz.f14 (Tryz.f14.body.getD .skip) [resA]=some (.list 3 [fcA 2 3,fcA 2 6]):=by kernel_rfl
theorem xUv:OcOk Tryz.prog ITryz 14 (ptO [resA] (.list 3 [fcA 2 3,fcA 2 6])):=xLO (xwG Tryz.func14 rfl (by kernel_rfl) xUw)
theorem xUN:XF Tryz.prog EAd Tryz.f21 (Tryz.f21.body.getD .skip) [lA]=some (.list 1 [.int .i64 0,.int .i64 2,.int .i64 3,.int .i64 5,.int .i64 8]):=by kernel_rfl
theorem xUM:OcOk Tryz.prog ITryz 21 (ptO [lA] (.list 1 [.int .i64 0,.int .i64 2,.int .i64 3,.int .i64 5,.int .i64 8])):=xLO (xwG Tryz.func21 rfl (by kernel_rfl) xUN)
noncomputable def EAt:Env:=(((EAs.with 14 (ptO [lA] (.list 3 [fcA 0 8,fcA 2 3]))).with 14 (ptO [resA] (.list 3 [fcA 2 3,fcA 2 6]))).with 16 (ptO [lA] (.list 3 [fcA 0 8]))).with 21 (ptO [lA] (.list 1 [.int .i64 0,.int .i64 2,.int .i64 3,.int .i64 5,.int .i64 8]))
theorem xUr:OrcOk Tryz.prog ITryz EAt:=(((xQl.with xUt).with xUv).with xUU).with xUM
noncomputable def EAe:Env:={ Env.deep Tryz.prog mmA EAt 14 with pin:=0 }
theorem xTI:XF Tryz.prog EAe Tryz.f12 (Tryz.f12.body.getD .skip) []=some (.bool true):=by kernel_rfl
def xI2:List AV→Option (Bool×AV)
 | []=>some (true,.bool true)
 | _=>none
theorem xTH:OcOk Tryz.prog ITryz 12 xI2:=fun xs r h=>by
 unfold xI2 at h;split at h
 · simp only [Option.some.injEq,Prod.mk.injEq,true_and] at h;subst h
   have hd:=xu9 mxTryz mmA (inv0Ok Tryz.prog 0) xUr (fun _=>rfl) 14
   exact xaI (p:=0) (xaK mxTryz (inv0Ok Tryz.prog _) rfl (xwK hd) Tryz.func12 rfl (by kernel_rfl) (xtV fun _=>rfl) xTI)
 · simp at h
end Go.Sim.M
end
noncomputable section
namespace Go.Sim.M
open Go.IntKind (i64 u64 u8)
open Go.RowKit Go.Proofs
def EKA:Env:=EKR3.with 12 xI2
theorem xLZ:OrcOk Tryz.prog ITryz EKA:=xTE.with xTH
end Go.Sim.M
end
noncomputable section
set_option maxRecDepth 100000
namespace Go.Sim.M
open Go.IntKind (i64 u64 u8)
open Go.RowKit Go.Proofs
def xmy:Env:=EKA.fn 23 0 (lsOf []) (lpsOf [])
theorem xIb:OrcOk Tryz.prog (ITryz.at 0) xmy:=xLZ.fn
theorem xB6:LoOk Tryz.prog (ITryz.at xmy.pin) xmy (loopAt Tryz.f40 0):=xaq (by kernel_rfl)
def xmz {T:Type} (l:LA) (i:Int) (δ:T) (κl:(Int)→T) (κr:(Bool×(Bool)×(Unit))→T):T:=br (decide (i<l.length)) (br (decide (0≤i)&&decide (i<l.length)) (br (decide (i.toNat<l.length)&&hasSh1 (Sh.list 3) ((l.getD i.toNat .top).cells.getD 0 .top)) (br (decide ((↑((l.getD i.toNat .top).cells.getD 0 .top).toList.length:Int)>60)) (κr (true,(false),())) (κl (i64.wrap (i+1)))) δ) δ) (κr (false,false,()))
def xcr (l:LA):(Int)→Option ((Int)⊕(Bool×(Bool)×(Unit))):=fun (i)=>xmz l i none (fun s=>some (.inl s)) (fun p=>some (.inr p))
def xj0 (l:LA):(Int)→LA×List Box:=fun (i)=>([AV.list 3 l,AV.int .i64 i],[])
def xia (l:LA):(Bool×(Bool)×(Unit))→LR:=fun p=>(.node p.1 (.leaf .ret [AV.bool p.2.1] []) (.leaf (.exit 0) [.top] []))
abbrev xJF (a:LA) (H:List Box):=XR Tryz.prog xmy [0,5] [4] [] (loopAt Tryz.f40 0) a H
theorem xJG (l:LA) (i:Int):Enc (encR (xj0 l) (xia l)) (xcr l i) (xJF (xj0 l i).1 (xj0 l i).2):=by
 refine eV (xmz l i none (fun s=>some (encR (xj0 l) (xia l) (.inl s))) (fun p=>some (encR (xj0 l) (xia l) (.inr p)))) (by kernel_rfl) ?_;unfold xcr xmz;repeat' first|exact eN|exact eS rfl|apply eB
def xwU:Lp:=lpOf [0,5] [4] [] (pCons (pList 3 pAny) (pCons (pInt .i64) pNil)) pNil fun (l,(i,_)) _=>((Iter (xcr l) (i)).isSome,xia l ((Iter (xcr l) (i)).getD (false,false,())))
theorem xGJ:LoopOk Tryz.prog (ITryz.at xmy.pin) xmy.nt (loopAt Tryz.f40 0) xwU:=xaP fun b d e c=>by
 obtain ⟨l,⟨i,_⟩⟩:=b
 obtain ⟨a,rfl⟩:=Prod.mk.inj c
 exact xar mxTryz (inv0Ok Tryz.prog _) rfl xIb xB6 (xj0 l) (xia l) (fun p=>by simp only [xia,LR.eval];first|(simp;done)|(repeat' split<;>simp)) (xJG l) (s:=(i)) (xab a)
def xoD:Env:=EKA.fn 23 0 (lsOf []) (lpsOf [(4,xwU)])
theorem xIc:OrcOk Tryz.prog (ITryz.at 0) xoD:=xLZ.fn
theorem xE2:LoOk Tryz.prog (ITryz.at xoD.pin) xoD (Tryz.f40.body.getD .skip):=xaM (ls:=[loopAt Tryz.f40 0]) (by kernel_rfl) (lkC xGJ lkN)
def xtL {T:Type} (l:LA) (a:Int) (δ:T) (κ:Bool→T):T:=br (decide ((↑l.length:Int)>a)) (κ (false)) (br ((Iter (xcr l) 0).isSome) (br (((Iter (xcr l) 0).getD (false,false,())).fst) (κ (((Iter (xcr l) 0).getD (false,false,())).snd.fst)) (κ (true))) δ)
def xmW (l:LA) (a:Int):Option (Bool):=xtL l a none some
theorem xN1 (l:LA) (a:Int):Enc (fun (p:Bool)=>((AV.bool p):AV)) (xmW l a) (XF Tryz.prog xoD Tryz.f40 (Tryz.f40.body.getD .skip) [AV.list 3 l,AV.int .i64 a]):=by
 refine eV (xtL l a none (fun (p:Bool)=>some ((AV.bool p):AV))) (by kernel_rfl) ?_;unfold xmW xtL;repeat' first|exact eN|exact eS rfl|apply eB
def xFP:LA→Option (Bool×AV):=ocOf (sCons (sList 3 pAny) (sCons (sEq (pInt .i64)) sNil)) fun (l,(a,_))=>((xmW l a).isSome,(AV.bool ((xmW l a).getD false)))
theorem xN0:OcOk Tryz.prog ITryz 40 (xFP):=xaL fun c g e=>by
 obtain ⟨l,⟨f,_⟩⟩:=c
 obtain ⟨a,b⟩:=Prod.mk.inj e
 refine xaI (p:=xoD.pin) (xaK mxTryz (inv0Ok Tryz.prog _) rfl xIc Tryz.func40 rfl (by kernel_rfl) xE2 ((xN1 _ _ _ (xab (d:=false) a)).trans ?_))
 exact congrArg some b
def xPg:Env:=EKA.with 40 xFP
theorem xL0:OrcOk Tryz.prog ITryz xPg:=xLZ.with xN0
def xor:Env:=xPg.fn 5 0 (lsOf []) (lpsOf [])
theorem xHD:OrcOk Tryz.prog (ITryz.at 0) xor:=xL0.fn
theorem xEB:LoOk Tryz.prog (ITryz.at xor.pin) xor (Tryz.f11.body.getD .skip):=xaq (by kernel_rfl)
def xtI {T:Type} (l:LA) (δ:T) (κ:Bool→T):T:=br ((xmW l 24).isSome) (κ ((xmW l 24).getD false)) δ
def xmU (l:LA):Option (Bool):=xtI l none some
theorem xNS (l:LA):Enc (fun (p:Bool)=>((AV.bool p):AV)) (xmU l) (XF Tryz.prog xor Tryz.f11 (Tryz.f11.body.getD .skip) [AV.list 3 l]):=by
 refine eV (xtI l none (fun (p:Bool)=>some ((AV.bool p):AV))) (by kernel_rfl) ?_;unfold xmU xtI;repeat' first|exact eN|exact eS rfl|apply eB
def xFG:LA→Option (Bool×AV):=ocOf (sCons (sList 3 pAny) sNil) fun (l,_)=>((xmU l).isSome,(AV.bool ((xmU l).getD false)))
theorem xNR:OcOk Tryz.prog ITryz 11 (xFG):=xaL fun c f e=>by
 obtain ⟨l,_⟩:=c
 obtain ⟨a,b⟩:=Prod.mk.inj e
 refine xaI (p:=xor.pin) (xaK mxTryz (inv0Ok Tryz.prog _) rfl xHD Tryz.func11 rfl (by kernel_rfl) xEB ((xNS _ _ (xab (d:=false) a)).trans ?_))
 exact congrArg some b
def xTi:Env:=xPg.with 11 xFG
theorem xSb:OrcOk Tryz.prog ITryz xTi:=xL0.with xNR
def xgc:Env:=xTi.fn 36 0 (lsOf []) (lpsOf [])
theorem xu8:OrcOk Tryz.prog (ITryz.at 0) xgc:=xSb.fn
theorem xuF:LoOk Tryz.prog (ITryz.at xgc.pin) xgc (Tryz.f3.body.getD .skip):=xaq (by kernel_rfl)
def xiC {T:Type} (l:LA) (δ:T) (κ:Bool→T):T:=br ((xmU l).isSome) (br (!(xmU l).getD false) (κ (true)) (br ((xdy l).isSome) (br ((xgB l).isSome) (br ((xcf ((xdy l).getD []) ((xgB l).getD [])).isSome) (br ((xcf ((xdy l).getD []) ((xgB l).getD [])).getD false) (br ((xgL l).isSome) (br ((xlk l).isSome) (br ((xcf ((xgL l).getD []) ((xlk l).getD [])).isSome) (br ((xcf ((xgL l).getD []) ((xlk l).getD [])).getD false) (br ((xdG l).isSome) (br ((xfn l).isSome) (br ((xdG l).getD false==(xfn l).getD false) (br ((xeg l).isSome) (br ((xgV l).isSome) (br ((xgw ((xeg l).getD []) ((xgV l).getD [])).isSome) (br ((xgw ((xeg l).getD []) ((xgV l).getD [])).getD false) (κ (true)) (κ (false))) δ) δ) δ) (κ (false))) δ) δ) (κ (false))) δ) δ) δ) (κ (false))) δ) δ) δ)) δ
def xef (l:LA):Option (Bool):=xiC l none some
theorem xzD (l:LA):Enc (fun (p:Bool)=>((AV.bool p):AV)) (xef l) (XF Tryz.prog xgc Tryz.f3 (Tryz.f3.body.getD .skip) [AV.list 3 l]):=by
 refine eV (xiC l none (fun (p:Bool)=>some ((AV.bool p):AV))) (by kernel_rfl) ?_;unfold xef xiC;repeat' first|exact eN|exact eS rfl|apply eB
def xzC:LA→Option (Bool×AV):=ocOf (sCons (sList 3 pAny) sNil) fun (l,_)=>((xef l).isSome,(AV.bool ((xef l).getD false)))
theorem xzB:OcOk Tryz.prog ITryz 3 (xzC):=xaL fun c f e=>by
 obtain ⟨l,_⟩:=c
 obtain ⟨a,b⟩:=Prod.mk.inj e
 refine xaI (p:=xgc.pin) (xaK mxTryz (inv0Ok Tryz.prog _) rfl xu8 Tryz.func3 rfl (by kernel_rfl) xuF ((xzD _ _ (xab (d:=false) a)).trans ?_))
 exact congrArg some b
end Go.Sim.M
end
