/- Part 14 of the proof: SrtE, E1, KP1, KP2, Lset, KP3, KP4, KP5, KV, KQ, KR1, KJ, KR2, KR3, Awz, KA, KL. -/
import Derived.Test.YtefloaolddjnhaaGreatDoorQR13
import Derived.StillTailTactics
set_option linter.unusedVariables false
set_option linter.unusedSimpArgs false
set_option linter.unnecessarySimpa false
set_option linter.unusedSectionVars false
noncomputable section
set_option maxRecDepth 100000
namespace Go.Sim.M
def cmpI (x y:Int):Int:=if x<y then -1 else if y<x then 1 else 0
def orI (x y:Int):Int:=if x=0 then y else x
end Go.Sim.M
namespace Go.Proofs
open Go.RowKit Go.Sim Go.Sim.M Go.Sort Go.Lib
theorem Tryz.cmp_walk (x y:Int) (w:World):Calls Tryz.prog 54 #[.int .i64 x,.int .i64 y] w fun e w'=>e=.returned (.int .i64 (cmpI x y))∧w'=w:=by
 unfold cmpI
 go_enter Tryz.func54,Tryz.ntmps54
 go_wp2
 all_goals (go_ret;exact ⟨rfl,rfl⟩)
theorem Tryz.or_walk (x y:Int) (b off c:Nat) (w:World) (h0:w.cell? ⟨b,off,none⟩=some (.int .i64 x)) (h1:w.cell? ⟨b,off+1,none⟩=some (.int .i64 y)):Calls Tryz.prog 71 #[.slice (some ⟨b,off,none⟩) 2 c] w fun e w'=>e=.returned (.int .i64 (orI x y))∧w'=w:=by
 unfold orI
 by_cases hx:x=0
 · subst hx
   rw [if_pos rfl]
   by_cases hy:y=0
   · subst hy
     go_enter Tryz.func71,Tryz.ntmps71
     go_wp2
     refine wp_loop_rounds 3 ?_
     rw [rounds_succ]
     go_wp2
     rw [rounds_succ]
     go_wp2
     rw [rounds_succ]
     go_wp2
     go_ret
     exact ⟨rfl,rfl⟩
   · have hy':(y != 0)=true:=by simpa using hy
     go_enter Tryz.func71,Tryz.ntmps71
     go_wp2
     refine wp_loop_rounds 3 ?_
     rw [rounds_succ]
     go_wp2
     rw [rounds_succ]
     go_wp2
     go_ret
     exact ⟨rfl,rfl⟩
 · have hx':(x != 0)=true:=by simpa using hx
   rw [if_neg hx]
   go_enter Tryz.func71,Tryz.ntmps71
   go_wp2
   refine wp_loop_rounds 3 ?_
   rw [rounds_succ]
   go_wp2
   go_ret
   exact ⟨rfl,rfl⟩
theorem fill2I (u1 u2:Int):Instr.fill (fun i=>some (i*1,1)) ((Array.range (2*1)).map (fun x=>(Value.int .i64 0).cells[x % (Value.int .i64 0).cells.size]!)) [(0,.int .i64 u1),(1,.int .i64 u2)]=some #[.int .i64 u1,.int .i64 u2]:=by
 simp [Instr.fill,Array.range,Value.cells]
 apply Array.ext
 · simp
 · intro i h1 h2
   rcases i with _|_|i
   · simp
   · simp
   · simp at h2;omega
set_option maxHeartbeats 2000000 in
theorem Tryz.levels2_walk (a b c d:Int) (w:World):Calls Tryz.prog 70 #[.agg #[.int .i64 a,.int .i64 b],.agg #[.int .i64 c,.int .i64 d]] w fun e w'=>e=.returned (.int .i64 (orI (cmpI a c) (cmpI b d)))∧∃ q os',w'=Sort.grow (w.drewN q) os':=by
 go_enter Tryz.func70,Tryz.ntmps70
 go_wp2_with (go_at_call 54;skip)
 have g0:(w.alloc (.cells #[.int .i64 a,.int .i64 b] 31)).heap[w.heap.size]?=some (.cells #[.int .i64 a,.int .i64 b] 31 (0,0)):=heap_alloc_new w _
 have g1:((w.alloc (.cells #[.int .i64 a,.int .i64 b] 31)).alloc (.cells #[.int .i64 c,.int .i64 d] 31)).heap[w.heap.size+1]?=some (.cells #[.int .i64 c,.int .i64 d] 31 (0,0)):=by
  have:=heap_alloc_new (w.alloc (.cells #[.int .i64 a,.int .i64 b] 31)) (.cells #[.int .i64 c,.int .i64 d] 31)
  have e:(w.alloc (.cells #[.int .i64 a,.int .i64 b] 31)).heap.size=w.heap.size+1:=by simp
  rwa [e] at this
 have f0:((w.alloc (.cells #[.int .i64 a,.int .i64 b] 31)).alloc (.cells #[.int .i64 c,.int .i64 d] 31)).cell? ⟨w.heap.size,0,none⟩=some (.int .i64 a):=by
  rw [World.cell?_alloc_past _ _ _ (by simp)];simp only [World.cell?,g0];rfl
 have f1:((w.alloc (.cells #[.int .i64 a,.int .i64 b] 31)).alloc (.cells #[.int .i64 c,.int .i64 d] 31)).cell? ⟨w.heap.size,1,none⟩=some (.int .i64 b):=by
  rw [World.cell?_alloc_past _ _ _ (by simp)];simp only [World.cell?,g0];rfl
 have f2:((w.alloc (.cells #[.int .i64 a,.int .i64 b] 31)).alloc (.cells #[.int .i64 c,.int .i64 d] 31)).cell? ⟨w.heap.size+1,0,none⟩=some (.int .i64 c):=by
  simp only [World.cell?,g1];rfl
 have f3:((w.alloc (.cells #[.int .i64 a,.int .i64 b] 31)).alloc (.cells #[.int .i64 c,.int .i64 d] 31)).cell? ⟨w.heap.size+1,1,none⟩=some (.int .i64 d):=by
  simp only [World.cell?,g1];rfl
 have f4:∃ q os',((w.alloc (.cells #[.int .i64 a,.int .i64 b] 31)).alloc (.cells #[.int .i64 c,.int .i64 d] 31))=Sort.grow (w.drewN q) os':=⟨0,_,by rw [alloc_eq_grow,alloc_eq_grow,grow_grow];rfl⟩
 generalize ((w.alloc (.cells #[.int .i64 a,.int .i64 b] 31)).alloc (.cells #[.int .i64 c,.int .i64 d] 31))=W2 at f0 f1 f2 f3 f4 ⊢
 refine wp_region_still_tail 10 (by kernel_rfl) (by kernel_rfl) ?_
 simp only [List.take_succ_cons,List.take_zero,List.drop_succ_cons,List.drop_zero]
 change wpStill _ _ (World.drew W2) _ _ _
 have f0':W2.drew.cell? ⟨w.heap.size,0,none⟩=some (.int .i64 a):=f0
 have f1':W2.drew.cell? ⟨w.heap.size,1,none⟩=some (.int .i64 b):=f1
 have f2':W2.drew.cell? ⟨w.heap.size+1,0,none⟩=some (.int .i64 c):=f2
 have f3':W2.drew.cell? ⟨w.heap.size+1,1,none⟩=some (.int .i64 d):=f3
 have f4':∃ q os',W2.drew=Sort.grow (w.drewN q) os':=by obtain ⟨q,os',e⟩:=f4;exact ⟨q+1,os',by rw [e];rfl⟩
 iterate 4 still_step
 still_call (Tryz.cmp_walk _ _ _)
 iterate 4 still_step
 still_call (Tryz.cmp_walk _ _ _)
 refine wpStill_nil ?_
 change wpList _ _ _ _ _ (World.drew W2)
 generalize World.drew W2=W at f0' f1' f2' f3' f4' ⊢
 generalize hu1:cmpI a c=u1
 generalize hu2:cmpI b d=u2
 obtain ⟨ie,q1,q2,q3⟩:∃ ie,Tryz.prog.info? 3=some ie∧ie.zero=some (.int .i64 0)∧ie.size=1:=⟨(Tryz.prog.info? 3).get (by kernel_rfl),(Option.some_get _).symm,by kernel_rfl,by kernel_rfl⟩
 refine wpList_buildSlice rfl 28 3 2 _ rfl #[.int .i64 u1,.int .i64 u2] ie (.int .i64 0) (by kernel_rfl) q1 q2 (by rw [q3];decide) (by rw [q3];decide) (by rw [q3];refine Eq.trans (congrArg _ ?_) (fill2I u1 u2);simp [Act.eval]) ?_
 simp only [Act.put]
 go_wp2_with fail
 have g2:(W.alloc (.cells #[.int .i64 u1,.int .i64 u2] 3)).heap[W.heap.size]?=some (.cells #[.int .i64 u1,.int .i64 u2] 3 (0,0)):=heap_alloc_new W _
 refine (Tryz.or_walk u1 u2 W.heap.size 0 2 (W.alloc (.cells #[.int .i64 u1,.int .i64 u2] 3)) (by simp only [World.cell?,g2];rfl) (by simp only [World.cell?,g2];rfl)).mono ?_
 rintro e w' ⟨rfl,rfl⟩
 go_wp2
 go_ret
 obtain ⟨q,os',hq⟩:=f4'
 exact ⟨by rw [hu1,hu2];rfl,q,_,by rw [hq,alloc_eq_grow,grow_grow]⟩
end Go.Proofs
namespace Go.Sim.M
abbrev TyE:Type:=Fin 1099511627777×Int×Int
def intsE (x:TyE):List Int:=[(x.1.val:Int),x.2.1,x.2.2]
def cmpE (x y:TyE):Int:=(x.1.val:Int) - (y.1.val:Int)
end Go.Sim.M
namespace Go.Proofs
open Go.RowKit Go.Sim Go.Sim.M Go.Sort
set_option maxHeartbeats 1000000 in
theorem Tryz.walkE (a b c a' b' c' r:Int) (hr:IntKind.i64.wrap (a - a')=r) (W:World):Calls Tryz.prog 130 #[.agg #[.int .i64 a,.int .i64 b,.int .i64 c],.agg #[.int .i64 a',.int .i64 b',.int .i64 c']] W fun e w'=>e=.returned (.int .i64 r)∧∃ q os',w'=Sort.grow (W.drewN q) os':=by
 go_enter Tryz.func130,Tryz.ntmps130
 go_wp2
 go_ret
 subst hr
 exact ⟨rfl,0,_,by rw [alloc_eq_grow,alloc_eq_grow,grow_grow];rfl⟩
end Go.Proofs
namespace Go.Sim.M
open Go.RowKit Go.Proofs Go.Sort
def isE:AV→Bool
 | .agg [.int .i64 a,.int .i64 _,.int .i64 _]=>decide (0≤a)&&decide (a≤1099511627776)
 | _=>false
def decE:AV→TyE
 | .agg [.int _ a,.int _ b,.int _ c]=>(Fin.ofNat 1099511627777 a.toNat,b,c)
 | _=>default
noncomputable def srtE (xs:List AV):List AV:=(pdqL cmpE (xs.map decE)).map (encI intsE)
theorem xNY {x:AV} (h:isE x=true):encI intsE (decE x)=x:=by
 unfold isE at h
 split at h
 · rename_i a b c
   simp only [Bool.and_eq_true,decide_eq_true_eq] at h
   have:a.toNat % 1099511627777=a.toNat:=Nat.mod_eq_of_lt (by omega)
   simp only [decE,encI,intsE,List.map_cons,List.map_nil,Fin.ofNat,this,Int.toNat_of_nonneg h.1]
 · simp at h
theorem xML {xs:List AV} (h:xs.all isE=true):(xs.map decE).map (encI intsE)=xs:=by
 rw [List.map_map]
 conv=>rhs;rw [←List.map_id xs]
 refine List.map_congr_left fun x hx=>?_
 exact xNY (List.all_eq_true.1 h x hx)
theorem ltE (x y:TyE):ltOf cmpE x y=decide (x.1.val<y.1.val):=by
 unfold ltOf cmpE
 by_cases h:x.1.val<y.1.val
 · rw [decide_eq_true h,decide_eq_true (by omega)]
 · rw [decide_eq_false h,decide_eq_false (by omega)]
theorem swoE:SWO (ltOf cmpE) where
 irrefl x:=by rw [ltE];simp
 trans x y z h1 h2:=by rw [ltE] at *;simp at *;omega
 ntrans x y z h1 h2:=by rw [ltE] at *;simp at *;omega
noncomputable def xEK:List AV→List Box→Option (Bool×AV×List Box)
 | [.osl (.b 0) ver 0 n,.func g []],[⟨ver',3,ty,xs,false,true⟩]=>match Nat.beq g 130&&Nat.beq ty 117 with
  | true=>some (Nat.beq ver ver'&&(Nat.beq n xs.length&&(decide (n<4611686018427387904)&&xs.all isE)),.tuple [],[⟨ver',3,117,srtE xs,false,true⟩])
  | false=>none
 | _,_=>none
theorem xPo:OmOk Tryz.prog ITryz 129 xEK:=fun ass H r H' h=>by
 unfold xEK at h
 split at h
 · rename_i ver n g ver' ty xs
   split at h
   case h_2=>simp at h
   rename_i hg
   simp only [Bool.and_eq_true] at hg
   obtain rfl:=Nat.eq_of_beq_eq_true hg.1
   obtain rfl:=Nat.eq_of_beq_eq_true hg.2
   simp only [Option.some.injEq,Prod.mk.injEq,Bool.and_eq_true,decide_eq_true_eq] at h
   obtain ⟨⟨h1,h2,h3,h4⟩,rfl,rfl⟩:=h
   obtain rfl:=Nat.eq_of_beq_eq_true h1
   obtain rfl:=Nat.eq_of_beq_eq_true h2
   have hti:∃ ti,tinfo Tryz.prog 117=some ti∧ti.sz=3∧ti.agg=true:=by
    have h:(match tinfo Tryz.prog 117 with|some ti=>(ti.sz==3)&&ti.agg|none=>false)=true:=by kernel_rfl
    split at h
    · rename_i ti hti
      simp only [Bool.and_eq_true,beq_iff_eq] at h
      exact ⟨ti,hti,h.1,h.2⟩
    · simp at h
   obtain ⟨ti,hti,hz,ha⟩:=hti
   have hgd:=xsq (P:=Tryz.prog) (Inv:=ITryz) Tryz.srl129 3 (by decide) (fun w=>by rw [←ha];exact xns hti w) (fun w=>by rw [←hz];exact xeX hti w)
    intsE (fun _=>rfl) cmpE swoE 130 (xeq Tryz.func129 rfl (by kernel_rfl)) (xmQ (xeq Tryz.func130 rfl (by kernel_rfl)))
    (fun x y W=>Tryz.walkE _ _ _ _ _ _ (cmpE x y) (by
     have:=x.1.isLt
     have:=y.1.isLt
     unfold cmpE
     exact xep (by omega) (by omega)) W)
    ver 117 rfl (xs.map decE) (by simpa using h3)
   rw [List.length_map,xML h4] at hgd
   exact hgd
 · simp at h
end Go.Sim.M
namespace Go.Sim.M
abbrev TyS:Type:=Fin 1099511627777×Int
def intsS (x:TyS):List Int:=[(x.1.val:Int),x.2]
def cmpS (x y:TyS):Int:=(x.1.val:Int) - (y.1.val:Int)
end Go.Sim.M
namespace Go.Proofs
open Go.RowKit Go.Sim Go.Sim.M Go.Sort
set_option maxHeartbeats 1000000 in
theorem Tryz.walkS (a b a' b' r:Int) (hr:IntKind.i64.wrap (a - a')=r) (W:World):Calls Tryz.prog 96 #[.agg #[.int .i64 a,.int .i64 b],.agg #[.int .i64 a',.int .i64 b']] W fun e w'=>e=.returned (.int .i64 r)∧∃ q os',w'=Sort.grow (W.drewN q) os':=by
 go_enter Tryz.func96,Tryz.ntmps96
 go_wp2
 go_ret
 subst hr
 exact ⟨rfl,0,_,by rw [alloc_eq_grow,alloc_eq_grow,grow_grow];rfl⟩
end Go.Proofs
namespace Go.Sim.M
open Go.RowKit Go.Proofs Go.Sort
def isS:AV→Bool
 | .agg [.int .i64 a,.int .i64 _]=>decide (0≤a)&&decide (a≤1099511627776)
 | _=>false
def decS:AV→TyS
 | .agg [.int _ a,.int _ b]=>(Fin.ofNat 1099511627777 a.toNat,b)
 | _=>default
noncomputable def srtS (xs:List AV):List AV:=(pdqL cmpS (xs.map decS)).map (encI intsS)
theorem xNw {x:AV} (h:isS x=true):encI intsS (decS x)=x:=by
 unfold isS at h
 split at h
 · rename_i a b
   simp only [Bool.and_eq_true,decide_eq_true_eq] at h
   have:a.toNat % 1099511627777=a.toNat:=Nat.mod_eq_of_lt (by omega)
   simp only [decS,encI,intsS,List.map_cons,List.map_nil,Fin.ofNat,this,Int.toNat_of_nonneg h.1]
 · simp at h
theorem xLy {xs:List AV} (h:xs.all isS=true):(xs.map decS).map (encI intsS)=xs:=by
 rw [List.map_map]
 conv=>rhs;rw [←List.map_id xs]
 refine List.map_congr_left fun x hx=>?_
 exact xNw (List.all_eq_true.1 h x hx)
theorem ltS (x y:TyS):ltOf cmpS x y=decide (x.1.val<y.1.val):=by
 unfold ltOf cmpS
 by_cases h:x.1.val<y.1.val
 · rw [decide_eq_true h,decide_eq_true (by omega)]
 · rw [decide_eq_false h,decide_eq_false (by omega)]
theorem swoS:SWO (ltOf cmpS) where
 irrefl x:=by rw [ltS];simp
 trans x y z h1 h2:=by rw [ltS] at *;simp at *;omega
 ntrans x y z h1 h2:=by rw [ltS] at *;simp at *;omega
noncomputable def xEI:List AV→List Box→Option (Bool×AV×List Box)
 | [.osl (.b 0) ver 0 n,.func g []],[⟨ver',2,ty,xs,false,true⟩]=>match Nat.beq g 96&&Nat.beq ty 75 with
  | true=>some (Nat.beq ver ver'&&(Nat.beq n xs.length&&(decide (n<4611686018427387904)&&xs.all isS)),.tuple [],[⟨ver',2,75,srtS xs,false,true⟩])
  | false=>none
 | _,_=>none
theorem xPw:OmOk Tryz.prog ITryz 95 xEI:=fun ass H r H' h=>by
 unfold xEI at h
 split at h
 · rename_i ver n g ver' ty xs
   split at h
   case h_2=>simp at h
   rename_i hg
   simp only [Bool.and_eq_true] at hg
   obtain rfl:=Nat.eq_of_beq_eq_true hg.1
   obtain rfl:=Nat.eq_of_beq_eq_true hg.2
   simp only [Option.some.injEq,Prod.mk.injEq,Bool.and_eq_true,decide_eq_true_eq] at h
   obtain ⟨⟨h1,h2,h3,h4⟩,rfl,rfl⟩:=h
   obtain rfl:=Nat.eq_of_beq_eq_true h1
   obtain rfl:=Nat.eq_of_beq_eq_true h2
   have hti:∃ ti,tinfo Tryz.prog 75=some ti∧ti.sz=2∧ti.agg=true:=by
    have h:(match tinfo Tryz.prog 75 with|some ti=>(ti.sz==2)&&ti.agg|none=>false)=true:=by kernel_rfl
    split at h
    · rename_i ti hti
      simp only [Bool.and_eq_true,beq_iff_eq] at h
      exact ⟨ti,hti,h.1,h.2⟩
    · simp at h
   obtain ⟨ti,hti,hz,ha⟩:=hti
   have hgd:=xsq (P:=Tryz.prog) (Inv:=ITryz) Tryz.srl95 2 (by decide) (fun w=>by rw [←ha];exact xns hti w) (fun w=>by rw [←hz];exact xeX hti w)
    intsS (fun _=>rfl) cmpS swoS 96 (xeq Tryz.func95 rfl (by kernel_rfl)) (xmQ (xeq Tryz.func96 rfl (by kernel_rfl)))
    (fun x y W=>Tryz.walkS _ _ _ _ (cmpS x y) (by
     have:=x.1.isLt
     have:=y.1.isLt
     unfold cmpS
     exact xep (by omega) (by omega)) W)
    ver 75 rfl (xs.map decS) (by simpa using h3)
   rw [List.length_map,xLy h4] at hgd
   exact hgd
 · simp at h
end Go.Sim.M
namespace Go.Sim.M
abbrev TyP:Type:=Int×Int
def intsP (x:TyP):List Int:=[x.1,x.2]
def cmpP (x y:TyP):Int:=orI (cmpI x.1 y.1) (cmpI x.2 y.2)
end Go.Sim.M
namespace Go.Sim.M
open Go.RowKit Go.Proofs Go.Sort
def isP:AV→Bool
 | .agg [.int .i64 _,.int .i64 _]=>true
 | _=>false
def decP:AV→TyP
 | .agg [.int _ a,.int _ b]=>(a,b)
 | _=>default
noncomputable def srtP (xs:List AV):List AV:=(pdqL cmpP (xs.map decP)).map (encI intsP)
theorem xOf {x:AV} (h:isP x=true):encI intsP (decP x)=x:=by
 unfold isP at h
 split at h
 · rfl
 · simp at h
theorem xLL {xs:List AV} (h:xs.all isP=true):(xs.map decP).map (encI intsP)=xs:=by
 rw [List.map_map]
 conv=>rhs;rw [←List.map_id xs]
 refine List.map_congr_left fun x hx=>?_
 exact xOf (List.all_eq_true.1 h x hx)
theorem ltP (x y:TyP):ltOf cmpP x y=decide (x.1<y.1∨x.1=y.1∧x.2<y.2):=by
 unfold ltOf cmpP orI cmpI
 by_cases h:x.1<y.1∨x.1=y.1∧x.2<y.2
 · rw [decide_eq_true h]
   simp only [decide_eq_true_eq]
   rcases h with h|⟨h,h'⟩
   · simp [h]
   · simp [h,h']
 · rw [decide_eq_false h]
   simp only [decide_eq_false_iff_not]
   have h1:¬ x.1<y.1:=fun e=>h (.inl e)
   by_cases h2:y.1<x.1
   · simp [h1,h2]
   · have h3:x.1=y.1:=by omega
     have h4:¬ x.2<y.2:=fun e=>h (.inr ⟨h3,e⟩)
     by_cases h5:y.2<x.2
     · simp [h1,h2,h4,h5]
     · simp [h1,h2,h4,h5]
theorem swoP:SWO (ltOf cmpP) where
 irrefl x:=by rw [ltP];simp
 trans x y z h1 h2:=by rw [ltP] at *;simp only [decide_eq_true_eq] at *;omega
 ntrans x y z h1 h2:=by rw [ltP] at *;simp only [decide_eq_true_eq,decide_eq_false_iff_not] at *;omega
noncomputable def xE2:List AV→List Box→Option (Bool×AV×List Box)
 | [.osl (.b 0) ver 0 n,.func g []],[⟨ver',2,ty,xs,false,true⟩]=>match Nat.beq g 70&&Nat.beq ty 31 with
  | true=>some (Nat.beq ver ver'&&(Nat.beq n xs.length&&(decide (n<4611686018427387904)&&xs.all isP)),.tuple [],[⟨ver',2,31,srtP xs,false,true⟩])
  | false=>none
 | _,_=>none
theorem xO1:OmOk Tryz.prog ITryz 69 xE2:=fun ass H r H' h=>by
 unfold xE2 at h
 split at h
 · rename_i ver n g ver' ty xs
   split at h
   case h_2=>simp at h
   rename_i hg
   simp only [Bool.and_eq_true] at hg
   obtain rfl:=Nat.eq_of_beq_eq_true hg.1
   obtain rfl:=Nat.eq_of_beq_eq_true hg.2
   simp only [Option.some.injEq,Prod.mk.injEq,Bool.and_eq_true,decide_eq_true_eq] at h
   obtain ⟨⟨h1,h2,h3,h4⟩,rfl,rfl⟩:=h
   obtain rfl:=Nat.eq_of_beq_eq_true h1
   obtain rfl:=Nat.eq_of_beq_eq_true h2
   have hti:∃ ti,tinfo Tryz.prog 31=some ti∧ti.sz=2∧ti.agg=true:=by
    have h:(match tinfo Tryz.prog 31 with|some ti=>(ti.sz==2)&&ti.agg|none=>false)=true:=by kernel_rfl
    split at h
    · rename_i ti hti
      simp only [Bool.and_eq_true,beq_iff_eq] at h
      exact ⟨ti,hti,h.1,h.2⟩
    · simp at h
   obtain ⟨ti,hti,hz,ha⟩:=hti
   have hgd:=xsq (P:=Tryz.prog) (Inv:=ITryz) Tryz.srl69 2 (by decide) (fun w=>by rw [←ha];exact xns hti w) (fun w=>by rw [←hz];exact xeX hti w)
    intsP (fun _=>rfl) cmpP swoP 70 (xeq Tryz.func69 rfl (by kernel_rfl)) (xmQ (xeq Tryz.func70 rfl (by kernel_rfl)))
    (fun x y W=>Tryz.levels2_walk _ _ _ _ W)
    ver 31 rfl (xs.map decP) (by simpa using h3)
   rw [List.length_map,xLL h4] at hgd
   exact hgd
 · simp at h
end Go.Sim.M
namespace Go.Sim.M
open Go.RowKit Go.Proofs Go.Sort
def isI:AV→Bool
 | .int .i64 _=>true
 | _=>false
noncomputable def srtI (xs:List AV):List AV:=(pdqL cmpI (xs.map AV.toInt)).map (AV.int .i64)
theorem xM7 {xs:List AV} (h:xs.all isI=true):(xs.map AV.toInt).map (AV.int .i64)=xs:=by
 rw [List.map_map]
 conv=>rhs;rw [←List.map_id xs]
 refine List.map_congr_left fun x hx=>?_
 have:=List.all_eq_true.1 h x hx
 unfold isI at this
 split at this
 · rfl
 · simp at this
theorem ltI (x y:Int):ltOf cmpI x y=decide (x<y):=by
 unfold ltOf cmpI
 by_cases h:x<y
 · simp [h]
 · by_cases h2:y<x<;>simp [h,h2]
theorem swoI:SWO (ltOf cmpI) where
 irrefl x:=by rw [ltI];simp
 trans x y z h1 h2:=by rw [ltI] at *;simp at *;omega
 ntrans x y z h1 h2:=by rw [ltI] at *;simp at *;omega
noncomputable def xFr:List AV→List Box→Option (Bool×AV×List Box)
 | [.osl (.b 0) ver 0 n,.func g []],[⟨ver',1,ty,xs,false,true⟩]=>match Nat.beq g 54&&Nat.beq ty 3 with
  | true=>some (Nat.beq ver ver'&&(Nat.beq n xs.length&&(decide (n<4611686018427387904)&&xs.all isI)),.tuple [],[⟨ver',1,3,srtI xs,false,true⟩])
  | false=>none
 | _,_=>none
theorem xPM:OmOk Tryz.prog ITryz 53 xFr:=fun ass H r H' h=>by
 unfold xFr at h
 split at h
 · rename_i ver n g ver' ty xs
   split at h
   case h_2=>simp at h
   rename_i hg
   simp only [Bool.and_eq_true] at hg
   obtain rfl:=Nat.eq_of_beq_eq_true hg.1
   obtain rfl:=Nat.eq_of_beq_eq_true hg.2
   simp only [Option.some.injEq,Prod.mk.injEq,Bool.and_eq_true,decide_eq_true_eq] at h
   obtain ⟨⟨h1,h2,h3,h4⟩,rfl,rfl⟩:=h
   obtain rfl:=Nat.eq_of_beq_eq_true h1
   obtain rfl:=Nat.eq_of_beq_eq_true h2
   have hgd:=xFH (P:=Tryz.prog) (Inv:=ITryz) Tryz.srl53 cmpI swoI 54 (xeq Tryz.func53 rfl (by kernel_rfl)) (xmQ (xeq Tryz.func54 rfl (by kernel_rfl)))
    (fun x y W=>(Tryz.cmp_walk x y W).mono fun e w' ⟨h1,h2⟩=>⟨h1,0,#[],by rw [h2];exact (grow_empty _).symm⟩)
    ver 3 rfl (xs.map AV.toInt) (by simpa using h3)
   rw [List.length_map,xM7 h4] at hgd
   exact hgd
 · simp at h
end Go.Sim.M
end
noncomputable section
namespace Go.Sim.M
open Go.RowKit Go.Proofs
noncomputable def E1:Env:=(((EKG.withM 129 xEK).withM 95 xEI).withM 69 xE2).withM 53 xFr
theorem xOS:OrcOk Tryz.prog ITryz E1:=(((xP9.withM xPo).withM xPw).withM xO1).withM xPM
end Go.Sim.M
end
noncomputable section
set_option maxRecDepth 100000
namespace Go.Sim.M
open Go.IntKind (i64 u64 u8)
open Go.RowKit Go.Proofs
def xmv:Env:=E1.fn 29 1 (lsOf []) (lpsOf [])
theorem xDy:OrcOk Tryz.prog (ITryz.at 1) xmv:=xOS.fn
theorem xBl:LoOk Tryz.prog (ITryz.at xmv.pin) xmv (Tryz.f97.body.getD .skip):=xaq (by kernel_rfl)
def xvm {T:Type} (k:Nat) (b n:Int) (a:LA) (δ:T) (κ:Bool×(Nat×LA)×(Nat×LA)→T):T:=br (decide ((↑k:Int)>0)) (br (decide (0≤i64.wrap ((↑k:Int) - 1))&&decide (i64.wrap ((↑k:Int) - 1)<(↑k:Int))) (br (decide (0+(i64.wrap ((↑k:Int) - 1)).toNat<a.length)&&hasSh1 (Sh.int .i64) ((a.getD (0+(i64.wrap ((↑k:Int) - 1)).toNat) .top).cells.getD 1 .top)) (br (((a.getD (0+(i64.wrap ((↑k:Int) - 1)).toNat) .top).cells.getD 1 .top).toInt==n) (κ (true,(k,a),(0,[]))) (br (k==a.length&&(decide ((k+1)*16≤140737488355328)&&decide (k+1≤4611686018427387904))) (κ (false,(0,[]),(k+1,a++[AV.agg [AV.int .i64 b,AV.int .i64 n]]))) δ)) δ) δ) (br (k==a.length&&(decide ((k+1)*16≤140737488355328)&&decide (k+1≤4611686018427387904))) (κ (false,(0,[]),(k+1,a++[AV.agg [AV.int .i64 b,AV.int .i64 n]]))) δ)
def xeZ (k:Nat) (a n:Int) (b:LA):Option (Bool×(Nat×LA)×(Nat×LA)):=xvm k a n b none some
theorem xI0 (k:Nat) (a n:Int) (xs:LA):Enc (fun (p:Bool×(Nat×LA)×(Nat×LA))=>((br p.1 ((AV.osl 0 0 0 p.2.1.1,([⟨0,2,75,p.2.1.2,false,true⟩]:List Box))) ((AV.osl 0 1 0 p.2.2.1,([⟨1,2,75,p.2.2.2,false,true⟩]:List Box)))):(AV×List Box))) (xeZ k a n xs) (XFM Tryz.prog xmv Tryz.f97 (Tryz.f97.body.getD .skip) [AV.osl (0:Id) 0 0 k,AV.int .i64 a,AV.int .i64 n] [{ ver:=0,sz:=2,ty:=(75:TypeId),xs:=xs,frz:=false,pm:=true }]):=by
 refine eV (xvm k a n xs none (fun (p:Bool×(Nat×LA)×(Nat×LA))=>some ((br p.1 ((AV.osl 0 0 0 p.2.1.1,([⟨0,2,75,p.2.1.2,false,true⟩]:List Box))) ((AV.osl 0 1 0 p.2.2.1,([⟨1,2,75,p.2.2.2,false,true⟩]:List Box)))):(AV×List Box)))) (by kernel_rfl) ?_;unfold xeZ xvm;repeat' first|exact eN|exact eS rfl|apply eB
def xB3:LA→List Box→Option (Bool×AV×List Box):=omOf (sCons (sEq (pOsl 0 0 0)) (sCons (sEq (pInt .i64)) (sCons (sEq (pInt .i64)) sNil))) (pCons (pBox 0 2 (75:TypeId) false true pAny) pNil) fun (k,(a,(n,_))) (b,_)=>((xeZ k a n b).isSome,(AV.osl 0 1 0 (br ((xeZ k a n b).getD (false,(0,[]),(0,[]))).1 ((xeZ k a n b).getD (false,(0,[]),(0,[]))).2.1.1 ((xeZ k a n b).getD (false,(0,[]),(0,[]))).2.2.1),([⟨1,2,75,(br ((xeZ k a n b).getD (false,(0,[]),(0,[]))).1 ((xeZ k a n b).getD (false,(0,[]),(0,[]))).2.1.2 ((xeZ k a n b).getD (false,(0,[]),(0,[]))).2.2.2),false,true⟩]:List Box)))
theorem xJl:OmOk Tryz.prog ITryz 97 (xB3):=xfQ fun e f j i g=>by
 obtain ⟨k,⟨b,⟨n,_⟩⟩⟩:=e
 obtain ⟨h,_⟩:=f
 obtain ⟨c,a⟩:=Prod.mk.inj g
 have hx:=xI0 _ _ _ _ _ (xab (d:=(false,(0,[]),(0,[]))) c)
 revert hx a
 generalize ((xeZ k b n h).getD (false,(0,[]),(0,[])))=p
 intro a hx
 obtain ⟨rfl,rfl⟩:=Prod.mk.inj a
 obtain ⟨t,⟨l,m⟩,o,q⟩:=p
 have hg:GoodM Tryz.prog ITryz 97 _ _ _ _:=xdv (p:=xmv.pin) (xdZ mxTryz (inv0Ok Tryz.prog _) rfl xDy rfl Tryz.func97 rfl (by kernel_rfl) xBl hx)
 cases t
 · exact hg
 · exact GoodM.bump1 rfl (by decide) hg
def xts:Env:=E1.withM 97 xB3
theorem xo6:OrcOk Tryz.prog ITryz xts:=xOS.withM xJl
def xlR:Env:=xts.fn 106 0 (lsOf []) (lpsOf [])
theorem xEx:OrcOk Tryz.prog (ITryz.at 0) xlR:=xo6.fn
theorem xAo:LoOk Tryz.prog (ITryz.at xlR.pin) xlR (loopAt Tryz.f72 0):=xaq (by kernel_rfl)
def xlK {T:Type} (d:LA) (e:Int) (a:Nat) (c:Int) (b:LA) (δ:T) (κl:(Nat×Int×LA)→T) (κr:(Nat×LA)→T):T:=br (decide (c<e)) (br (decide (0≤c)&&decide (c<d.length)) (br (decide (c.toNat<d.length)&&((d.getD c.toNat .top).cells.length==3&&hasShs [Sh.int .i64,Sh.int .i64,Sh.int .i64] (d.getD c.toNat .top).cells 0)) (br (xdm ((d.getD c.toNat .top).cells.getD 0 .top).toInt ((d.getD c.toNat .top).cells.getD 1 .top).toInt) (br (a==b.length&&(decide ((a+2)*16≤140737488355328)&&decide (a+2≤4611686018427387904))) (κl (a+2,i64.wrap (c+1),b++[AV.agg [AV.int .i64 ((d.getD c.toNat .top).cells.getD 0 .top).toInt,AV.int .i64 ((d.getD c.toNat .top).cells.getD 2 .top).toInt],AV.agg [AV.int .i64 ((d.getD c.toNat .top).cells.getD 1 .top).toInt,AV.int .i64 (i64.wrap (0 - ((d.getD c.toNat .top).cells.getD 2 .top).toInt))]])) δ) (κl (a,i64.wrap (c+1),b))) δ) δ) (κr (a,b))
def xdH (c:LA) (d:Int):(Nat×Int×LA)→Option ((Nat×Int×LA)⊕(Nat×LA)):=fun (b,e,a)=>xlK c d b e a none (fun s=>some (.inl s)) (fun p=>some (.inr p))
def xjt (c:LA) (d:Int):(Nat×Int×LA)→LA×List Box:=fun (b,e,a)=>([AV.osl 0 0 0 b,AV.list 3 c,AV.int .i64 d,AV.int .i64 e],[⟨0,2,75,a,false,true⟩])
def xh0 (a:LA) (b:Int):(Nat×LA)→LR:=fun p=>(.leaf (.exit 0) [AV.osl 0 0 0 p.1] [⟨0,2,75,p.2,false,true⟩])
abbrev xGT (a:LA) (H:List Box):=XR Tryz.prog xlR [3,10,11,12] [3] [(3,2,75)] (loopAt Tryz.f72 0) a H
theorem xG1 (a:LA) (b:Int) (s:Nat×Int×LA):Enc (encR (xjt a b) (xh0 a b)) (xdH a b s) (xGT (xjt a b s).1 (xjt a b s).2):=by
 obtain ⟨d,e,c⟩:=s
 refine eV (xlK a b d e c none (fun s=>some (encR (xjt a b) (xh0 a b) (.inl s))) (fun p=>some (encR (xjt a b) (xh0 a b) (.inr p)))) (by kernel_rfl) ?_;unfold xdH xlK;repeat' first|exact eN|exact eS rfl|apply eB
def xkG:Lp:=lpOf [3,10,11,12] [3] [(3,2,75)] (pCons (pOsl 0 0 0) (pCons (pList 3 pAny) (pCons (pInt .i64) (pCons (pInt .i64) pNil)))) (pCons (pBox 0 2 75 false true pAny) pNil) fun (b,(c,(d,(e,_)))) (a,_)=>((Iter (xdH c d) (b,e,a)).isSome,xh0 c d ((Iter (xdH c d) (b,e,a)).getD (0,[])))
theorem xDz:LoopOk Tryz.prog (ITryz.at xlR.pin) xlR.nt (loopAt Tryz.f72 0) xkG:=xaY fun g h j i=>by
 obtain ⟨b,⟨c,⟨d,⟨e,_⟩⟩⟩⟩:=g
 obtain ⟨a,_⟩:=h
 obtain ⟨f,rfl⟩:=Prod.mk.inj i
 exact xaG mxTryz (inv0Ok Tryz.prog _) rfl xEx xAo (xjt c d) (xh0 c d) (fun p=>by simp only [xh0,LR.eval];first|(simp;done)|(repeat' split<;>simp)) (xG1 c d) (s:=(b,e,a)) (xab f)
def xlX:Env:=xts.fn 106 0 (lsOf []) (lpsOf [(3,xkG)])
theorem xEN:OrcOk Tryz.prog (ITryz.at 0) xlX:=xo6.fn
theorem xy5:LoOk Tryz.prog (ITryz.at xlX.pin) xlX (loopAt Tryz.f72 1):=xaq (by kernel_rfl)
def xvS (i:Int) (a:LA):=decide (0+i.toNat<a.length)
def xsr {T:Type} (b e:Nat) (d i:Int) (a c:LA) (δ:T) (κl:(Int×Int×LA×LA)→T) (κr:(Int×Int×LA×LA)→T):T:=br (decide (i<(↑b:Int))) (br (decide (0≤i)&&decide (i<(↑b:Int))) (br (xvS i a&&hasSh1 (Sh.int .i64) ((a.getD (0+i.toNat) .top).cells.getD 0 .top)) (br (((a.getD (0+i.toNat) .top).cells.getD 0 .top).toInt==0) (br (decide (0≤i)&&decide (i<(↑b:Int))) (br (xvS i a&&hasSh1 (Sh.int .i64) ((a.getD (0+i.toNat) .top).cells.getD 1 .top)) (κl (i64.wrap (d+((a.getD (0+i.toNat) .top).cells.getD 1 .top).toInt),i64.wrap (i+1),a,c)) δ) δ) (κr (d,i,a,c))) δ) δ) (κr (d,i,a,c))
def xfK (b d:Nat):(Int×Int×LA×LA)→Option ((Int×Int×LA×LA)⊕(Int×Int×LA×LA)):=fun (e,i,a,c)=>xsr b d e i a c none (fun s=>some (.inl s)) (fun p=>some (.inr p))
def xjl (b d:Nat):(Int×Int×LA×LA)→LA×List Box:=fun (e,i,a,c)=>([AV.osl 0 0 0 b,AV.osl 1 0 0 d,AV.int .i64 e,AV.int .i64 i],[⟨0,2,75,a,false,true⟩,⟨0,2,75,c,false,true⟩])
def xhB (a b:Nat):(Int×Int×LA×LA)→LR:=fun p=>(.leaf (.exit 2) [AV.osl 0 0 0 a,AV.osl 1 0 0 b,AV.int .i64 p.1,AV.int .i64 p.2.1] [⟨0,2,75,p.2.2.1,false,true⟩,⟨0,2,75,p.2.2.2,false,true⟩])
abbrev xGM (a:LA) (H:List Box):=XR Tryz.prog xlX [3,6,7,8] [3,6,7,8] [(3,2,75),(6,2,75)] (loopAt Tryz.f72 1) a H
theorem xGQ (a b:Nat) (s:Int×Int×LA×LA):Enc (encR (xjl a b) (xhB a b)) (xfK a b s) (xGM (xjl a b s).1 (xjl a b s).2):=by
 obtain ⟨e,i,c,d⟩:=s
 refine eV (xsr a b e i c d none (fun s=>some (encR (xjl a b) (xhB a b) (.inl s))) (fun p=>some (encR (xjl a b) (xhB a b) (.inr p)))) (by kernel_rfl) ?_;unfold xfK xsr;repeat' first|exact eN|exact eS rfl|apply eB
def xnI:Lp:=lpOf [3,6,7,8] [3,6,7,8] [(3,2,75),(6,2,75)] (pCons (pOsl 0 0 0) (pCons (pOsl 1 0 0) (pCons (pInt .i64) (pCons (pInt .i64) pNil)))) (pCons (pBox 0 2 75 false true pAny) (pCons (pBox 0 2 75 false true pAny) pNil)) fun (a,(c,(e,(i,_)))) (b,(d,_))=>((Iter (xfK a c) (e,i,b,d)).isSome,xhB a c ((Iter (xfK a c) (e,i,b,d)).getD (0,0,[],[])))
theorem xDG:LoopOk Tryz.prog (ITryz.at xlX.pin) xlX.nt (loopAt Tryz.f72 1) xnI:=xaY fun g h k j=>by
 obtain ⟨a,⟨b,⟨e,⟨i,_⟩⟩⟩⟩:=g
 obtain ⟨c,⟨d,_⟩⟩:=h
 obtain ⟨f,rfl⟩:=Prod.mk.inj j
 exact xaG mxTryz (inv0Ok Tryz.prog _) rfl xEN xy5 (xjl a b) (xhB a b) (fun p=>by simp only [xhB,LR.eval];first|(simp;done)|(repeat' split<;>simp)) (xGQ a b) (s:=(e,i,c,d)) (xab f)
def xlV:Env:=xts.fn 106 0 (lsOf []) (lpsOf [(3,xkG),(11,xnI)])
theorem xFi:OrcOk Tryz.prog (ITryz.at 0) xlV:=xo6.fn
theorem xAe:LoOk Tryz.prog (ITryz.at xlV.pin) xlV (loopAt Tryz.f72 3):=xaq (by kernel_rfl)
def xkO (i:Int) (a:LA):=decide (0+i.toNat<a.length)
def xjy {T:Type} (b f:Nat) (e d i:Int) (a c:LA) (δ:T) (κl:(Int×Int×LA×LA)→T) (κr:(Int×Int×LA×LA)→T):T:=br (decide (i<(↑b:Int))) (br (decide (0≤i)&&decide (i<(↑b:Int))) (br (xkO i a&&hasSh1 (Sh.int .i64) ((a.getD (0+i.toNat) .top).cells.getD 0 .top)) (br (((a.getD (0+i.toNat) .top).cells.getD 0 .top).toInt==e) (br (decide (0≤i)&&decide (i<(↑b:Int))) (br (xkO i a&&hasSh1 (Sh.int .i64) ((a.getD (0+i.toNat) .top).cells.getD 1 .top)) (κl (i64.wrap (d+((a.getD (0+i.toNat) .top).cells.getD 1 .top).toInt),i64.wrap (i+1),a,c)) δ) δ) (κr (d,i,a,c))) δ) δ) (κr (d,i,a,c))
def xc9 (b d:Nat) (e:Int):(Int×Int×LA×LA)→Option ((Int×Int×LA×LA)⊕(Int×Int×LA×LA)):=fun (f,i,a,c)=>xjy b d e f i a c none (fun s=>some (.inl s)) (fun p=>some (.inr p))
def xjp (b d:Nat) (e:Int):(Int×Int×LA×LA)→LA×List Box:=fun (f,i,a,c)=>([AV.osl 0 0 0 b,AV.osl 1 0 0 d,AV.int .i64 f,AV.int .i64 i,AV.int .i64 e],[⟨0,2,75,a,false,true⟩,⟨0,2,75,c,false,true⟩])
def xh4 (a b:Nat) (c:Int):(Int×Int×LA×LA)→LR:=fun p=>(.leaf (.exit 6) [AV.osl 0 0 0 a,AV.osl 1 0 0 b,AV.int .i64 p.1,AV.int .i64 p.2.1,AV.int .i64 c] [⟨0,2,75,p.2.2.1,false,true⟩,⟨0,2,75,p.2.2.2,false,true⟩])
abbrev xGK (a:LA) (H:List Box):=XR Tryz.prog xlV [3,6,7,8,9] [3,6,7,8,9] [(3,2,75),(6,2,75)] (loopAt Tryz.f72 3) a H
theorem xG4 (a b:Nat) (c:Int) (s:Int×Int×LA×LA):Enc (encR (xjp a b c) (xh4 a b c)) (xc9 a b c s) (xGK (xjp a b c s).1 (xjp a b c s).2):=by
 obtain ⟨f,i,d,e⟩:=s
 refine eV (xjy a b c f i d e none (fun s=>some (encR (xjp a b c) (xh4 a b c) (.inl s))) (fun p=>some (encR (xjp a b c) (xh4 a b c) (.inr p)))) (by kernel_rfl) ?_;unfold xc9 xjy;repeat' first|exact eN|exact eS rfl|apply eB
def xq6:Lp:=lpOf [3,6,7,8,9] [3,6,7,8,9] [(3,2,75),(6,2,75)] (pCons (pOsl 0 0 0) (pCons (pOsl 1 0 0) (pCons (pInt .i64) (pCons (pInt .i64) (pCons (pInt .i64) pNil))))) (pCons (pBox 0 2 75 false true pAny) (pCons (pBox 0 2 75 false true pAny) pNil)) fun (a,(c,(f,(i,(e,_))))) (b,(d,_))=>((Iter (xc9 a c e) (f,i,b,d)).isSome,xh4 a c e ((Iter (xc9 a c e) (f,i,b,d)).getD (0,0,[],[])))
theorem xuf:LoopOk Tryz.prog (ITryz.at xlV.pin) xlV.nt (loopAt Tryz.f72 3) xq6:=xaY fun h j l k=>by
 obtain ⟨a,⟨b,⟨f,⟨i,⟨d,_⟩⟩⟩⟩⟩:=h
 obtain ⟨c,⟨e,_⟩⟩:=j
 obtain ⟨g,rfl⟩:=Prod.mk.inj k
 exact xaG mxTryz (inv0Ok Tryz.prog _) rfl xFi xAe (xjp a b d) (xh4 a b d) (fun p=>by simp only [xh4,LR.eval];first|(simp;done)|(repeat' split<;>simp)) (xG4 a b d) (s:=(f,i,c,e)) (xab g)
def xlY:Env:=xts.fn 106 0 (lsOf []) (lpsOf [(3,xkG),(11,xnI),(17,xq6)])
theorem xEX:OrcOk Tryz.prog (ITryz.at 0) xlY:=xo6.fn
theorem xzz:LoOk Tryz.prog (ITryz.at xlY.pin) xlY (loopAt Tryz.f72 2):=xaP (ls:=[loopAt Tryz.f72 3]) (by kernel_rfl) (lkC xuf lkN)
def xjB (i:Int) (a:LA):=decide (0+i.toNat<a.length)&&hasSh1 (Sh.int .i64) ((a.getD (0+i.toNat) .top).cells.getD 0 .top)
def xhO (i:Int) (a:LA):=((a.getD (0+i.toNat) .top).cells.getD 0 .top).toInt
def xj7 (b d:Nat) (e i:Int) (a c:LA):=Iter (xc9 b d (xhO i a)) (e,i,a,c)
def xkJ (b d:Nat) (e i:Int) (a c:LA):=(xj7 b d e i a c).getD (0,0,[],[])
def xkL (b d:Nat) (e i:Int) (a c:LA):=(xkJ b d e i a c).fst
def xk0 (b d:Nat) (e i:Int) (a c:LA):=(xkJ b d e i a c).snd
def xkI (b d:Nat) (e i:Int) (a c:LA):=(xk0 b d e i a c).snd
def xkF (b c:Nat) (e i:Int) (a d:LA):=xeZ c (xhO i a) (xkL b c e i a d) (xkI b c e i a d).snd
def xkE (b d:Nat) (e i:Int) (a c:LA):=(xkF b d e i a c).getD (false,(0,[]),0,[])
def xkU (b d:Nat) (e i:Int) (a c:LA):=(xkE b d e i a c).fst
def xle (b d:Nat) (e i:Int) (a c:LA):=(xkE b d e i a c).snd
def xkN (b d:Nat) (e i:Int) (a c:LA):=(xle b d e i a c).fst
def xk4 (b d:Nat) (e i:Int) (a c:LA):=(xle b d e i a c).snd
def xjs {T:Type} (b d:Nat) (e i:Int) (a c:LA) (δ:T) (κl:(Nat×Int×Int×LA×LA)→T) (κr:(Nat×LA)→T):T:=br (decide (i<(↑b:Int))) (br (decide (0≤i)&&decide (i<(↑b:Int))) (br (xjB i a) (br (decide (xhO i a<1099511627776)) (br (decide (0≤i)&&decide (i<(↑b:Int))) (br (xjB i a) (br ((xj7 b d e i a c).isSome) (br ((xkF b d e i a c).isSome) (κl (br (xkU b d e i a c) (xkN b d e i a c).fst (xk4 b d e i a c).fst,xkL b d e i a c,(xk0 b d e i a c).fst,(xkI b d e i a c).fst,br (xkU b d e i a c) (xkN b d e i a c).snd (xk4 b d e i a c).snd)) δ) δ) δ) δ) (κr (d,c))) δ) δ) (κr (d,c))
def xdD (b:Nat):(Nat×Int×Int×LA×LA)→Option ((Nat×Int×Int×LA×LA)⊕(Nat×LA)):=fun (d,e,i,a,c)=>xjs b d e i a c none (fun s=>some (.inl s)) (fun p=>some (.inr p))
def xjv (b:Nat):(Nat×Int×Int×LA×LA)→LA×List Box:=fun (d,e,i,a,c)=>([AV.osl 0 0 0 b,AV.osl 1 0 0 d,AV.int .i64 e,AV.int .i64 i],[⟨0,2,75,a,false,true⟩,⟨0,2,75,c,false,true⟩])
def xhX (a:Nat):(Nat×LA)→LR:=fun p=>(.leaf (.exit 4) [AV.osl 0 0 0 p.1] [⟨0,2,75,p.2,false,true⟩])
abbrev xGF (a:LA) (H:List Box):=XR Tryz.prog xlY [3,6,7,8] [6] [(3,2,75),(6,2,75)] (loopAt Tryz.f72 2) a H
theorem xGH (a:Nat) (s:Nat×Int×Int×LA×LA):Enc (encR (xjv a) (xhX a)) (xdD a s) (xGF (xjv a s).1 (xjv a s).2):=by
 obtain ⟨d,e,i,b,c⟩:=s
 refine eV (xjs a d e i b c none (fun s=>some (encR (xjv a) (xhX a) (.inl s))) (fun p=>some (encR (xjv a) (xhX a) (.inr p)))) (by kernel_rfl) ?_;unfold xdD xjs;repeat' first|exact eN|exact eS rfl|apply eB
def xwi:Lp:=lpOf [3,6,7,8] [6] [(3,2,75),(6,2,75)] (pCons (pOsl 0 0 0) (pCons (pOsl 1 0 0) (pCons (pInt .i64) (pCons (pInt .i64) pNil)))) (pCons (pBox 0 2 75 false true pAny) (pCons (pBox 0 2 75 false true pAny) pNil)) fun (a,(d,(e,(i,_)))) (b,(c,_))=>((Iter (xdD a) (d,e,i,b,c)).isSome,xhX a ((Iter (xdD a) (d,e,i,b,c)).getD (0,[])))
theorem xEh:LoopOk Tryz.prog (ITryz.at xlY.pin) xlY.nt (loopAt Tryz.f72 2) xwi:=xaY fun g h k j=>by
 obtain ⟨a,⟨d,⟨e,⟨i,_⟩⟩⟩⟩:=g
 obtain ⟨b,⟨c,_⟩⟩:=h
 obtain ⟨f,rfl⟩:=Prod.mk.inj j
 exact xaG mxTryz (inv0Ok Tryz.prog _) rfl xEX xzz (xjv a) (xhX a) (fun p=>by simp only [xhX,LR.eval];first|(simp;done)|(repeat' split<;>simp)) (xGH a) (s:=(d,e,i,b,c)) (xab f)
def xn6:Env:=xts.fn 106 0 (lsOf []) (lpsOf [(3,xkG),(11,xnI),(17,xq6),(15,xwi)])
theorem xEH:OrcOk Tryz.prog (ITryz.at 0) xn6:=xo6.fn
theorem xCk:LoOk Tryz.prog (ITryz.at xn6.pin) xn6 (Tryz.f72.body.getD .skip):=xaP (ls:=[loopAt Tryz.f72 0,loopAt Tryz.f72 1,loopAt Tryz.f72 2,loopAt Tryz.f72 3]) (by kernel_rfl) (lkC xDz (lkC xDG (lkC xEh (lkC xuf lkN))))
def xth (l:LA):=(Iter (xdH l (↑l.length:Int)) (0,0,[])).getD (0,[])
def xmD (l:LA):=(xth l).fst
def xpE (l:LA):=(xth l).snd
def xtF (l:LA):=Iter (xfK (xmD l) 0) (0,0,srtS (xpE l),[])
def xtL (l:LA):=(xtF l).getD (0,0,[],[])
def xti (l:LA):=(xtL l).fst
def xtv (l:LA):=(xtL l).snd
def xtu (l:LA):=(xtv l).snd
def xvj (l:LA):=xeZ 0 0 (xti l) (xtu l).snd
def xvf (l:LA):=(xvj l).getD (false,(0,[]),0,[])
def xuZ (l:LA):=(xvf l).fst
def xuE (l:LA):=(xvf l).snd
def xuD (l:LA):=(xuE l).snd
def xuP (l:LA):=(xuE l).fst
def xuK (l:LA):=Iter (xdD (xmD l)) (br (xuZ l) (xuP l).fst (xuD l).fst,xti l,(xtv l).fst,(xtu l).fst,br (xuZ l) (xuP l).snd (xuD l).snd)
def xu0 (l:LA):=(xuK l).getD (0,[])
def xu6 (l:LA):=(xu0 l).snd
def xva (l:LA):=(xu0 l).fst
def xsY {T:Type} (l:LA) (δ:T) (κ:LA→T):T:=br ((Iter (xdH l (↑l.length:Int)) (0,0,[])).isSome) (br ((xmD l).beq (xpE l).length&&(decide (xmD l<4611686018427387904)&&(xpE l).all isS)) (br ((xtF l).isSome) (br ((xvj l).isSome) (br ((xuK l).isSome) (br (decide (0+xva l≤(xu6 l).length)&&true) (κ (List.take (xva l) (List.drop 0 (xu6 l)))) δ) δ) δ) δ) δ) δ
def xmN (l:LA):Option (LA):=xsY l none some
theorem xK4 (l:LA):Enc (fun (p:LA)=>((AV.list 2 p):AV)) (xmN l) (XF Tryz.prog xn6 Tryz.f72 (Tryz.f72.body.getD .skip) [AV.list 3 l]):=by
 refine eV (xsY l none (fun (p:LA)=>some ((AV.list 2 p):AV))) (by kernel_rfl) ?_;unfold xmN xsY;repeat' first|exact eN|exact eS rfl|apply eB
def xDT:LA→Option (Bool×AV):=ocOf (sCons (sList 3 pAny) sNil) fun (l,_)=>((xmN l).isSome,(AV.list 2 ((xmN l).getD [])))
theorem xKb:OcOk Tryz.prog ITryz 72 (xDT):=xaN fun c f e=>by
 obtain ⟨l,_⟩:=c
 obtain ⟨a,b⟩:=Prod.mk.inj e
 refine xaH (p:=xn6.pin) (xaL mxTryz (inv0Ok Tryz.prog _) rfl xEH Tryz.func72 rfl (by kernel_rfl) xCk ((xK4 _ _ (xab (d:=[]) a)).trans ?_))
 exact congrArg some b
def xEy:Env:=xts.with 72 xDT
theorem xzc:OrcOk Tryz.prog ITryz xEy:=xo6.with xKb
def xfw:Env:=xEy.fn 20 0 (lsOf []) (lpsOf [])
theorem xuX:OrcOk Tryz.prog (ITryz.at 0) xfw:=xzc.fn
theorem xsl:LoOk Tryz.prog (ITryz.at xfw.pin) xfw (loopAt Tryz.f45 0):=xaq (by kernel_rfl)
def xfO {T:Type} (d:LA) (e:Int) (b:Nat) (a:Int) (c:LA) (δ:T) (κl:(Nat×Int×LA)→T) (κr:(Nat×LA)→T):T:=br (decide (a<e)) (br (decide (0≤a)&&decide (a<d.length)) (br (decide (a.toNat<d.length)&&((d.getD a.toNat .top).cells.length==2&&hasShs [Sh.int .i64,Sh.int .i64] (d.getD a.toNat .top).cells 0)) (br (b==c.length&&(decide ((b+1)*24≤140737488355328)&&decide (b+1≤4611686018427387904))) (κl (b+1,i64.wrap (a+1),c++[AV.agg [AV.int .i64 ((d.getD a.toNat .top).cells.getD 0 .top).toInt,AV.int .i64 ((d.getD a.toNat .top).cells.getD 1 .top).toInt,AV.int .i64 1]])) δ) δ) δ) (κr (b,c))
def xbs (c:LA) (d:Int):(Nat×Int×LA)→Option ((Nat×Int×LA)⊕(Nat×LA)):=fun (b,e,a)=>xfO c d b e a none (fun s=>some (.inl s)) (fun p=>some (.inr p))
def xee (c:LA) (d:Int):(Nat×Int×LA)→LA×List Box:=fun (b,e,a)=>([AV.osl 0 0 0 b,AV.list 2 c,AV.int .i64 d,AV.int .i64 e],[⟨0,3,78,a,false,true⟩])
def xdA (a:LA) (b:Int):(Nat×LA)→LR:=fun p=>(.leaf (.exit 0) [AV.osl 0 0 0 p.1] [⟨0,3,78,p.2,false,true⟩])
abbrev xwf (a:LA) (H:List Box):=XR Tryz.prog xfw [3,6,7,8] [3] [(3,3,78)] (loopAt Tryz.f45 0) a H
theorem xv4 (a:LA) (b:Int) (s:Nat×Int×LA):Enc (encR (xee a b) (xdA a b)) (xbs a b s) (xwf (xee a b s).1 (xee a b s).2):=by
 obtain ⟨d,e,c⟩:=s
 refine eV (xfO a b d e c none (fun s=>some (encR (xee a b) (xdA a b) (.inl s))) (fun p=>some (encR (xee a b) (xdA a b) (.inr p)))) (by kernel_rfl) ?_;unfold xbs xfO;repeat' first|exact eN|exact eS rfl|apply eB
def xob:Lp:=lpOf [3,6,7,8] [3] [(3,3,78)] (pCons (pOsl 0 0 0) (pCons (pList 2 pAny) (pCons (pInt .i64) (pCons (pInt .i64) pNil)))) (pCons (pBox 0 3 78 false true pAny) pNil) fun (b,(c,(d,(e,_)))) (a,_)=>((Iter (xbs c d) (b,e,a)).isSome,xdA c d ((Iter (xbs c d) (b,e,a)).getD (0,[])))
theorem xtZ:LoopOk Tryz.prog (ITryz.at xfw.pin) xfw.nt (loopAt Tryz.f45 0) xob:=xaY fun f g j h=>by
 obtain ⟨d,⟨a,⟨b,⟨i,_⟩⟩⟩⟩:=f
 obtain ⟨c,_⟩:=g
 obtain ⟨e,rfl⟩:=Prod.mk.inj h
 exact xaG mxTryz (inv0Ok Tryz.prog _) rfl xuX xsl (xee a b) (xdA a b) (fun p=>by simp only [xdA,LR.eval];first|(simp;done)|(repeat' split<;>simp)) (xv4 a b) (s:=(d,i,c)) (xab e)
def xgV:Env:=xEy.fn 20 0 (lsOf []) (lpsOf [(3,xob)])
theorem xuT:OrcOk Tryz.prog (ITryz.at 0) xgV:=xzc.fn
theorem xtO:LoOk Tryz.prog (ITryz.at xgV.pin) xgV (Tryz.f45.body.getD .skip):=xaP (ls:=[loopAt Tryz.f45 0]) (by kernel_rfl) (lkC xtZ lkN)
def xlZ (l:LA):=(Iter (xbs l (↑l.length:Int)) (0,0,[])).getD (0,[])
def xl8 (l:LA):=(xlZ l).snd
def xl2 (l:LA):=(xlZ l).fst
def xl5 (l:LA):=xmN (List.take (xl2 l) (List.drop 0 (xl8 l)))
def xj0 {T:Type} (l:LA) (δ:T) (κ:LA→T):T:=br ((Iter (xbs l (↑l.length:Int)) (0,0,[])).isSome) (br (decide (0+xl2 l≤(xl8 l).length)&&true) (br ((xl5 l).isSome) (κ ((xl5 l).getD [])) δ) δ) δ
def xda (l:LA):Option (LA):=xj0 l none some
theorem xy2 (l:LA):Enc (fun (p:LA)=>((AV.list 2 p):AV)) (xda l) (XF Tryz.prog xgV Tryz.f45 (Tryz.f45.body.getD .skip) [AV.list 2 l]):=by
 refine eV (xj0 l none (fun (p:LA)=>some ((AV.list 2 p):AV))) (by kernel_rfl) ?_;unfold xda xj0;repeat' first|exact eN|exact eS rfl|apply eB
def xrF:LA→Option (Bool×AV):=ocOf (sCons (sList 2 pAny) sNil) fun (l,_)=>((xda l).isSome,(AV.list 2 ((xda l).getD [])))
theorem xAs:OcOk Tryz.prog ITryz 45 (xrF):=xaN fun c f e=>by
 obtain ⟨l,_⟩:=c
 obtain ⟨a,b⟩:=Prod.mk.inj e
 refine xaH (p:=xgV.pin) (xaL mxTryz (inv0Ok Tryz.prog _) rfl xuT Tryz.func45 rfl (by kernel_rfl) xtO ((xy2 _ _ (xab (d:=[]) a)).trans ?_))
 exact congrArg some b
def xMe:Env:=xEy.with 45 xrF
theorem xLS:OrcOk Tryz.prog ITryz xMe:=xzc.with xAs
abbrev EKP1:Env:=xMe
theorem xAL:OrcOk Tryz.prog ITryz EKP1:=xLS
end Go.Sim.M
end
noncomputable section
set_option maxRecDepth 100000
namespace Go.Sim.M
open Go.IntKind (i64 u64 u8)
open Go.RowKit Go.Proofs
def xjj:Env:=EKP1.fn 71 5 (lsOf []) (lpsOf [])
theorem xCU:OrcOk Tryz.prog (ITryz.at 5) xjj:=xAL.fn
theorem xwQ:LoOk Tryz.prog (ITryz.at xjj.pin) xjj (loopAt Tryz.f68 1):=xaq (by kernel_rfl)
def xjF {T:Type} (o n:Int) (f g:Nat) (k p m j:Int) (i l d h a:Nat) (b:LA) (e:Nat) (c:LA) (δ:T) (κl:(Int×Int×Nat×Nat×Nat×Nat×Nat×LA×Nat×LA)→T) (κr:(Int×Nat×Nat×Nat×Nat×LA×Nat×LA×Nat)→T):T:=br (decide (m<p)) (br (a==f) (br (a==f) (br (a==f&&(decide (g<b.length)&&hasSh1 (Sh.int .i64) ((b.getD g .top).cells.getD 0 .top))) (br (e==h&&(d==c.length&&(decide ((d+1)*16≤140737488355328)&&decide (d+1≤4611686018427387904)))) (κl (i64.wrap (m+1),j,i,l,d+1,h+1,a,List.take i b,h+1,c++[AV.agg [AV.int .i64 ((b.getD g .top).cells.getD 0 .top).toInt,AV.int .i64 o]])) δ) δ) δ) δ) (κr (j,l,i,h,d,b,a,c,e))
def xcC (m n:Int) (e f:Nat) (k o:Int):(Int×Int×Nat×Nat×Nat×Nat×Nat×LA×Nat×LA)→Option ((Int×Int×Nat×Nat×Nat×Nat×Nat×LA×Nat×LA)⊕(Int×Nat×Nat×Nat×Nat×LA×Nat×LA×Nat)):=fun (q,g,h,i,j,l,a,b,c,d)=>xjF m n e f k o q g h i j l a b c d none (fun s=>some (.inl s)) (fun p=>some (.inr p))
def xhT (m n:Int) (e f:Nat) (k o:Int):(Int×Int×Nat×Nat×Nat×Nat×Nat×LA×Nat×LA)→LA×List Box:=fun (p,g,h,i,j,l,a,b,c,d)=>([AV.int .i64 m,AV.int .i64 n,AV.own 0 0 0 0,AV.own 1 0 0 0,AV.own 2 0 0 0,AV.own 3 e f 0,AV.int .i64 k,AV.int .i64 o,AV.int .i64 p],[⟨0,1,3,[AV.int .i64 g],false,true⟩,⟨0,1,84,[AV.osl 3 i 0 h],false,false⟩,⟨0,1,53,[AV.osl 4 l 0 j],false,false⟩,⟨a,2,86,b,false,true⟩,⟨c,2,31,d,false,true⟩])
def xgJ (c n:Int) (a b:Nat) (k d:Int):(Int×Nat×Nat×Nat×Nat×LA×Nat×LA×Nat)→LR:=fun p=>(.leaf (.exit 2) [AV.int .i64 c,AV.int .i64 n,AV.own 0 0 0 0,AV.own 1 0 0 0,AV.own 2 0 0 0,AV.own 3 a b 0,AV.int .i64 k] [⟨0,1,3,[AV.int .i64 p.1],false,true⟩,⟨0,1,84,[AV.osl 3 p.2.1 0 p.2.2.1],false,false⟩,⟨0,1,53,[AV.osl 4 p.2.2.2.1 0 p.2.2.2.2.1],false,false⟩,⟨p.2.2.2.2.2.2.1,2,86,p.2.2.2.2.2.1,false,true⟩,⟨p.2.2.2.2.2.2.2.2,2,31,p.2.2.2.2.2.2.2.1,false,true⟩])
abbrev xDn (a:LA) (H:List Box):=XR Tryz.prog xjj [0,1,2,3,4,7,8,37,38] [0,1,2,3,4,7,8] [(3,0,0)] (loopAt Tryz.f68 1) a H
theorem xDh (c n:Int) (a b:Nat) (k d:Int) (s:Int×Int×Nat×Nat×Nat×Nat×Nat×LA×Nat×LA):Enc (encR (xhT c n a b k d) (xgJ c n a b k d)) (xcC c n a b k d s) (xDn (xhT c n a b k d s).1 (xhT c n a b k d s).2):=by
 obtain ⟨q,i,j,l,m,o,e,f,g,h⟩:=s
 refine eV (xjF c n a b k d q i j l m o e f g h none (fun s=>some (encR (xhT c n a b k d) (xgJ c n a b k d) (.inl s))) (fun p=>some (encR (xhT c n a b k d) (xgJ c n a b k d) (.inr p)))) (by kernel_rfl) ?_;unfold xcC xjF;repeat' first|exact eN|exact eS rfl|apply eB
def xoU:Lp:=lpOf [0,1,2,3,4,7,8,37,38] [0,1,2,3,4,7,8] [(3,0,0)] (pCons (pInt .i64) (pCons (pInt .i64) (pCons (pOwn 0 0 0 0) (pCons (pOwn 1 0 0 0) (pCons (pOwn 2 0 0 0) (pCons (pOwnV 3 0) (pCons (pInt .i64) (pCons (pInt .i64) (pCons (pInt .i64) pNil))))))))) (pCons (pBox 0 1 3 false true (pCons (pInt .i64) pNil)) (pCons (pBox 0 1 84 false false (pCons (pOslV 3 0) pNil)) (pCons (pBox 0 1 53 false false (pCons (pOslV 4 0) pNil)) (pCons (pBoxV 2 86 false true pAny) (pCons (pBoxV 2 31 false true pAny) pNil))))) fun (g,(n,(_,(_,(_,((e,f),(k,(h,(p,_))))))))) ((i,_),(((j,l),_),(((m,o),_),((a,b),((c,d),_)))))=>((Iter (xcC g n e f k h) (p,i,l,j,o,m,a,b,c,d)).isSome,xgJ g n e f k h ((Iter (xcC g n e f k h) (p,i,l,j,o,m,a,b,c,d)).getD (0,0,0,0,0,[],0,[],0)))
theorem xsF:LoopOk Tryz.prog (ITryz.at xjj.pin) xjj.nt (loopAt Tryz.f68 1) xoU:=xaY fun t u w v=>by
 obtain ⟨g,⟨n,⟨_,⟨_,⟨_,⟨⟨a,b⟩,⟨k,⟨h,⟨q,_⟩⟩⟩⟩⟩⟩⟩⟩⟩:=t
 obtain ⟨⟨i,_⟩,⟨⟨⟨j,l⟩,_⟩,⟨⟨⟨m,o⟩,_⟩,⟨⟨c,d⟩,⟨⟨e,f⟩,_⟩⟩⟩⟩⟩:=u
 obtain ⟨r,rfl⟩:=Prod.mk.inj v
 exact xaG mxTryz (inv0Ok Tryz.prog _) rfl xCU xwQ (xhT g n a b k h) (xgJ g n a b k h) (fun p=>by simp only [xgJ,LR.eval];first|(simp;done)|(repeat' split<;>simp)) (xDh g n a b k h) (s:=(q,i,l,j,o,m,c,d,e,f)) (xab r)
def xji:Env:=EKP1.fn 71 5 (lsOf []) (lpsOf [(7,xoU)])
theorem xCm:OrcOk Tryz.prog (ITryz.at 5) xji:=xAL.fn
theorem xwK:LoOk Tryz.prog (ITryz.at xji.pin) xji (loopAt Tryz.f68 0):=xaP (ls:=[loopAt Tryz.f68 1]) (by kernel_rfl) (lkC xsF lkN)
def xbw (a:Nat):Nat:=0+(i64.wrap ((↑a:Int) - 1)).toNat
def xeW (n b:Int) (c d:Nat) (a:LA):Int:=if i64.wrap (b - n)<((a.getD (xbw c) .top).cells.getD 1 .top).toInt then i64.wrap (b - n) else ((a.getD (xbw c) .top).cells.getD 1 .top).toInt
def xkB (j n d:Int) (c g h i a:Nat) (b:LA) (e:Nat) (f:LA):=Iter (xcC j n g (xbw c) (xeW n d c a b) (xeW n d c a b)) (0,d,c,g,h,i,a,List.take c b,e,f)
def xib (j n e:Int) (f g h i a:Nat) (b:LA) (c:Nat) (d:LA):=(xkB j n e f g h i a b c d).getD (0,0,0,0,0,[],0,[],0)
def xkw (j n e:Int) (f g h i a:Nat) (b:LA) (c:Nat) (d:LA):=(xib j n e f g h i a b c d).snd
def xhk (j n e:Int) (f g h i a:Nat) (b:LA) (c:Nat) (d:LA):=(xkw j n e f g h i a b c d).fst
def xky (j n e:Int) (f g h i a:Nat) (b:LA) (c:Nat) (d:LA):=(xkw j n e f g h i a b c d).snd
def xg6 (j n e:Int) (f g h i a:Nat) (b:LA) (c:Nat) (d:LA):=(xky j n e f g h i a b c d).fst
def xic (j n e:Int) (f g h i a:Nat) (b:LA) (c:Nat) (d:LA):=(xky j n e f g h i a b c d).snd
def xhh (j n e:Int) (f g h i a:Nat) (b:LA) (c:Nat) (d:LA):=i64.wrap ((↑(xg6 j n e f g h i a b c d):Int) - 1)
def xik (j n e:Int) (f g h i a:Nat) (b:LA) (c:Nat) (d:LA):=(xic j n e f g h i a b c d).snd
def xkC (j n e:Int) (f g h i a:Nat) (b:LA) (c:Nat) (d:LA):=(xik j n e f g h i a b c d).snd
def xix (j n e:Int) (f g h i a:Nat) (b:LA) (c:Nat) (d:LA):=(xkC j n e f g h i a b c d).fst
def xlB (j n e:Int) (f g h i a:Nat) (b:LA) (c:Nat) (d:LA):=(xkC j n e f g h i a b c d).snd
def xev (j n f:Int) (g e h i a:Nat) (b:LA) (c:Nat) (d:LA):=(xlB j n f g e h i a b c d).fst==e
def xll (j n f:Int) (e g h i a:Nat) (b:LA) (c:Nat) (d:LA):=decide (xbw e<(xix j n f e g h i a b c d).length)
def xg8 (j n f:Int) (e g h i a:Nat) (b:LA) (c:Nat) (d:LA):=((xix j n f e g h i a b c d).getD (xbw e) .top).cells
def xg0 (j n e:Int) (f g h i a:Nat) (b:LA) (c:Nat) (d:LA):=(xlB j n e f g h i a b c d).snd
def xfI (j n f:Int) (e g h i a:Nat) (b:LA) (c:Nat) (d:LA):=(xix j n f e g h i a b c d).set (xbw e) (AV.agg (List.take 1 (xg8 j n f e g h i a b c d)++[AV.int .i64 (i64.wrap (((xg8 j n f e g h i a b c d).getD 1 .top).toInt - xeW n f e a b))]++List.drop 2 (xg8 j n f e g h i a b c d)))
def xf4 {T:Type} (j n g:Int) (f e h i a:Nat) (b:LA) (c:Nat) (d:LA) (δ:T) (κl:(Int×Nat×Nat×Nat×Nat×Nat×LA×Nat×LA)→T) (κr:(Int×Nat×Nat×Nat×Nat×LA×Nat×LA×Nat)→T):T:=br (decide (g>n)) (br (a==e) (br (a==e&&(decide (0≤i64.wrap ((↑f:Int) - 1))&&decide (i64.wrap ((↑f:Int) - 1)<(↑f:Int)))) (br (a==e) (br (a==e) (br (a==e&&(decide (xbw f<b.length)&&hasSh1 (Sh.int .i64) ((b.getD (xbw f) .top).cells.getD 1 .top))) (br ((xkB j n g f e h i a b c d).isSome) (br (xev j n g f e h i a b c d) (br (xev j n g f e h i a b c d) (br (xev j n g f e h i a b c d&&(xll j n g f e h i a b c d&&hasSh1 (Sh.int .i64) ((xg8 j n g f e h i a b c d).getD 1 .top))) (br (xev j n g f e h i a b c d) (br (xev j n g f e h i a b c d) (br (xev j n g f e h i a b c d&&xll j n g f e h i a b c d) (br (e==e) (br (e==e) (br (e==e&&(decide (xbw f<(xfI j n g f e h i a b c d).length)&&hasSh1 (Sh.int .i64) (((xfI j n g f e h i a b c d).getD (xbw f) .top).cells.getD 1 .top))) (br ((((xfI j n g f e h i a b c d).getD (xbw f) .top).cells.getD 1 .top).toInt==0) (br (e==xhk j n g f e h i a b c d) (br (e==xhk j n g f e h i a b c d&&(decide (0≤xhh j n g f e h i a b c d)&&decide (xhh j n g f e h i a b c d≤(↑(xg6 j n g f e h i a b c d):Int))&&true)) (κl (i64.wrap ((xib j n g f e h i a b c d).fst - xeW n g f a b),(xhh j n g f e h i a b c d).toNat - 0,xhk j n g f e h i a b c d,(xik j n g f e h i a b c d).fst,(xic j n g f e h i a b c d).fst,e,List.take ((xhh j n g f e h i a b c d).toNat - 0) (xfI j n g f e h i a b c d),(xg0 j n g f e h i a b c d).snd,(xg0 j n g f e h i a b c d).fst)) δ) δ) (κl (i64.wrap ((xib j n g f e h i a b c d).fst - xeW n g f a b),xg6 j n g f e h i a b c d,xhk j n g f e h i a b c d,(xik j n g f e h i a b c d).fst,(xic j n g f e h i a b c d).fst,e,List.take (xg6 j n g f e h i a b c d) (xfI j n g f e h i a b c d),(xg0 j n g f e h i a b c d).snd,(xg0 j n g f e h i a b c d).fst))) δ) δ) δ) δ) δ) δ) δ) δ) δ) δ) δ) δ) δ) δ) δ) (κr (g,e,f,i,h,b,a,d,c))
def xb1 (j n:Int):(Int×Nat×Nat×Nat×Nat×Nat×LA×Nat×LA)→Option ((Int×Nat×Nat×Nat×Nat×Nat×LA×Nat×LA)⊕(Int×Nat×Nat×Nat×Nat×LA×Nat×LA×Nat)):=fun (e,f,g,h,i,a,b,c,d)=>xf4 j n e f g h i a b c d none (fun s=>some (.inl s)) (fun p=>some (.inr p))
def xhS (j n:Int):(Int×Nat×Nat×Nat×Nat×Nat×LA×Nat×LA)→LA×List Box:=fun (e,f,g,h,i,a,b,c,d)=>([AV.int .i64 j,AV.int .i64 n,AV.own 0 0 0 0,AV.own 1 0 0 0,AV.own 2 0 0 0],[⟨0,1,3,[AV.int .i64 e],false,true⟩,⟨0,1,84,[AV.osl 3 g 0 f],false,false⟩,⟨0,1,53,[AV.osl 4 i 0 h],false,false⟩,⟨a,2,86,b,false,true⟩,⟨c,2,31,d,false,true⟩])
def xgD (a n:Int):(Int×Nat×Nat×Nat×Nat×LA×Nat×LA×Nat)→LR:=fun p=>(.leaf (.exit 0) [] [⟨0,1,3,[AV.int .i64 p.1],false,true⟩,⟨0,1,84,[AV.osl 3 p.2.1 0 p.2.2.1],false,false⟩,⟨0,1,53,[AV.osl 4 p.2.2.2.1 0 p.2.2.2.2.1],false,false⟩,⟨p.2.2.2.2.2.2.1,2,86,p.2.2.2.2.2.1,false,true⟩,⟨p.2.2.2.2.2.2.2.2,2,31,p.2.2.2.2.2.2.2.1,false,true⟩])
abbrev xC7 (a:LA) (H:List Box):=XR Tryz.prog xji [0,1,2,3,4] [] [(3,0,0)] (loopAt Tryz.f68 0) a H
theorem xEE (a n:Int) (s:Int×Nat×Nat×Nat×Nat×Nat×LA×Nat×LA):Enc (encR (xhS a n) (xgD a n)) (xb1 a n s) (xC7 (xhS a n s).1 (xhS a n s).2):=by
 obtain ⟨f,g,h,i,j,b,c,d,e⟩:=s
 refine eV (xf4 a n f g h i j b c d e none (fun s=>some (encR (xhS a n) (xgD a n) (.inl s))) (fun p=>some (encR (xhS a n) (xgD a n) (.inr p)))) (by kernel_rfl) ?_;unfold xb1 xf4;repeat' first|exact eN|exact eS rfl|apply eB
def xtA:Lp:=lpOf [0,1,2,3,4] [] [(3,0,0)] (pCons (pInt .i64) (pCons (pInt .i64) (pCons (pOwn 0 0 0 0) (pCons (pOwn 1 0 0 0) (pCons (pOwn 2 0 0 0) pNil))))) (pCons (pBox 0 1 3 false true (pCons (pInt .i64) pNil)) (pCons (pBox 0 1 84 false false (pCons (pOslV 3 0) pNil)) (pCons (pBox 0 1 53 false false (pCons (pOslV 4 0) pNil)) (pCons (pBoxV 2 86 false true pAny) (pCons (pBoxV 2 31 false true pAny) pNil))))) fun (e,(n,(_,(_,(_,_))))) ((f,_),(((g,h),_),(((i,j),_),((a,b),((c,d),_)))))=>((Iter (xb1 e n) (f,h,g,j,i,a,b,c,d)).isSome,xgD e n ((Iter (xb1 e n) (f,h,g,j,i,a,b,c,d)).getD (0,0,0,0,0,[],0,[],0)))
theorem xA5:LoopOk Tryz.prog (ITryz.at xji.pin) xji.nt (loopAt Tryz.f68 0) xtA:=xaY fun l m q o=>by
 obtain ⟨e,⟨n,⟨_,⟨_,⟨_,_⟩⟩⟩⟩⟩:=l
 obtain ⟨⟨f,_⟩,⟨⟨⟨g,h⟩,_⟩,⟨⟨⟨i,j⟩,_⟩,⟨⟨a,b⟩,⟨⟨c,d⟩,_⟩⟩⟩⟩⟩:=m
 obtain ⟨k,rfl⟩:=Prod.mk.inj o
 exact xaG mxTryz (inv0Ok Tryz.prog _) rfl xCm xwK (xhS e n) (xgD e n) (fun p=>by simp only [xgD,LR.eval];first|(simp;done)|(repeat' split<;>simp)) (xEE e n) (s:=(f,h,g,j,i,a,b,c,d)) (xab k)
def xlH:Env:=EKP1.fn 71 5 (lsOf []) (lpsOf [(7,xoU),(3,xtA)])
theorem xCf:OrcOk Tryz.prog (ITryz.at 5) xlH:=xAL.fn
theorem xAc:LoOk Tryz.prog (ITryz.at xlH.pin) xlH (Tryz.f68.body.getD .skip):=xaP (ls:=[loopAt Tryz.f68 0,loopAt Tryz.f68 1]) (by kernel_rfl) (lkC xA5 (lkC xsF lkN))
def xnl (a n h:Int) (b c:Nat) (d e:LA):=Iter (xb1 a n) (n,b+1,1,c,0,1,List.take (b+1) (d++[AV.agg [AV.int .i64 a,AV.int .i64 (i64.wrap (n - h))]]),0,e)
def xnk (a n h:Int) (b c:Nat) (d e:LA):=Iter (xb1 a n) (h,b,0,c,0,0,List.take b d,0,e)
def xng (a n h:Int) (b c:Nat) (d e:LA):=(xnl a n h b c d e).getD (0,0,0,0,0,[],0,[],0)
def xnA (a n h:Int) (b c:Nat) (d e:LA):=(xnk a n h b c d e).getD (0,0,0,0,0,[],0,[],0)
def xos (a n h:Int) (b c:Nat) (d e:LA):=(xng a n h b c d e).snd
def xnJ (a n h:Int) (b c:Nat) (d e:LA):=(xnA a n h b c d e).snd
def xor (a n h:Int) (b c:Nat) (d e:LA):=(xos a n h b c d e).snd
def xnq (a n h:Int) (b c:Nat) (d e:LA):=(xnJ a n h b c d e).snd
def xoF (a n h:Int) (b c:Nat) (d e:LA):=(xor a n h b c d e).snd
def xnE (a n h:Int) (b c:Nat) (d e:LA):=(xnq a n h b c d e).snd
def xom (a n h:Int) (b c:Nat) (d e:LA):=(xoF a n h b c d e).snd
def xno (a n h:Int) (b c:Nat) (d e:LA):=(xnE a n h b c d e).snd
def xou (a n h:Int) (b c:Nat) (d e:LA):=(xom a n h b c d e).snd
def xoA (a n h:Int) (b c:Nat) (d e:LA):=(xno a n h b c d e).snd
def xot (a n h:Int) (b c:Nat) (d e:LA):=(xou a n h b c d e).snd
def xoo (a n h:Int) (b c:Nat) (d e:LA):=(xoA a n h b c d e).snd
def xoy (a n h:Int) (b c:Nat) (d e:LA):=(xot a n h b c d e).snd
def xoB (a n h:Int) (b c:Nat) (d e:LA):=(xoo a n h b c d e).snd
def xmZ {T:Type} (a n h:Int) (b d:Nat) (c e:LA) (δ:T) (κ:Int×Nat×Nat×Nat×Nat×LA×Nat×LA×Nat→T):T:=br (decide (n>h)) (br (b==c.length&&(decide ((b+1)*16≤140737488355328)&&decide (b+1≤4611686018427387904))) (br ((xnl a n h b d c e).isSome) (κ ((xng a n h b d c e).fst,(xos a n h b d c e).fst,(xor a n h b d c e).fst,(xoF a n h b d c e).fst,(xom a n h b d c e).fst,(xou a n h b d c e).fst,(xot a n h b d c e).fst,(xoy a n h b d c e).fst,(xoy a n h b d c e).snd)) δ) δ) (br ((xnk a n h b d c e).isSome) (κ ((xnA a n h b d c e).fst,(xnJ a n h b d c e).fst,(xnq a n h b d c e).fst,(xnE a n h b d c e).fst,(xno a n h b d c e).fst,(xoA a n h b d c e).fst,(xoo a n h b d c e).fst,(xoB a n h b d c e).fst,(xoB a n h b d c e).snd)) δ)
def xni (a n h:Int) (b c:Nat) (d e:LA):Option (Int×Nat×Nat×Nat×Nat×LA×Nat×LA×Nat):=xmZ a n h b c d e none some
theorem xIA (a n h:Int) (b c:Nat) (d e:LA):Enc (fun (p:Int×Nat×Nat×Nat×Nat×LA×Nat×LA×Nat)=>(((AV.tuple [],([⟨0,1,3,[AV.int .i64 p.1],false,true⟩,⟨0,1,84,[AV.osl 3 p.2.1 0 p.2.2.1],false,false⟩,⟨0,1,53,[AV.osl 4 p.2.2.2.1 0 p.2.2.2.2.1],false,false⟩,⟨p.2.2.2.2.2.2.1,2,86,p.2.2.2.2.2.1,false,true⟩,⟨p.2.2.2.2.2.2.2.2,2,31,p.2.2.2.2.2.2.2.1,false,true⟩]:List Box))):(AV×List Box))) (xni a n h b c d e) (XFM Tryz.prog xlH Tryz.f68 (Tryz.f68.body.getD .skip) [AV.int .i64 a,AV.int .i64 n,AV.own (0:Id) 0 0 0,AV.own (1:Id) 0 0 0,AV.own (2:Id) 0 0 0] [{ ver:=0,sz:=1,ty:=(3:TypeId),xs:=[AV.int .i64 h],frz:=false,pm:=true },{ ver:=0,sz:=1,ty:=(84:TypeId),xs:=[AV.osl (3:Id) 0 0 b],frz:=false,pm:=false },{ ver:=0,sz:=1,ty:=(53:TypeId),xs:=[AV.osl (4:Id) 0 0 c],frz:=false,pm:=false },{ ver:=0,sz:=2,ty:=(86:TypeId),xs:=d,frz:=false,pm:=true },{ ver:=0,sz:=2,ty:=(31:TypeId),xs:=e,frz:=false,pm:=true }]):=by
 refine eV (xmZ a n h b c d e none (fun (p:Int×Nat×Nat×Nat×Nat×LA×Nat×LA×Nat)=>some (((AV.tuple [],([⟨0,1,3,[AV.int .i64 p.1],false,true⟩,⟨0,1,84,[AV.osl 3 p.2.1 0 p.2.2.1],false,false⟩,⟨0,1,53,[AV.osl 4 p.2.2.2.1 0 p.2.2.2.2.1],false,false⟩,⟨p.2.2.2.2.2.2.1,2,86,p.2.2.2.2.2.1,false,true⟩,⟨p.2.2.2.2.2.2.2.2,2,31,p.2.2.2.2.2.2.2.1,false,true⟩]:List Box))):(AV×List Box)))) (by kernel_rfl) ?_;unfold xni xmZ;repeat' first|exact eN|exact eS rfl|apply eB
end Go.Sim.M
end
noncomputable section
set_option maxRecDepth 100000
namespace Go.Sim
open Go.RowKit
theorem GoodM.aged {P:Program} {Inv:IV} {f:FuncId} {args:List AV} {H:List Box} {x0:AV} {v3 v4 k3 k4 t0 t1 t2 t3 t4 s3 s4:Nat} {xs3 xs4:List AV} (hlen:H.length=5) (hz3:∀ bx,H[3]?=some bx→bx.ver=0) (hz4:∀ bx,H[4]?=some bx→bx.ver=0)
  (p0:isC t0=false) (p1:isC t1=false) (p2:isC t2=false) (p3:isC t3=false) (p4:isC t4=false)
  (h:GoodM P Inv f args H (.tuple []) [⟨0,1,t0,[x0],false,true⟩,⟨0,1,t1,[.osl (.b 3) v3 0 k3],false,false⟩,⟨0,1,t2,[.osl (.b 4) v4 0 k4],false,false⟩,⟨v3,s3,t3,xs3,false,true⟩,⟨v4,s4,t4,xs4,false,true⟩]) :
  GoodM P Inv f args H (.tuple []) [⟨0,1,t0,[x0],false,true⟩,⟨0,1,t1,[.osl (.b 3) 1 0 k3],false,false⟩,⟨0,1,t2,[.osl (.b 4) 1 0 k4],false,false⟩,⟨1,s3,t3,xs3,false,true⟩,⟨1,s4,t4,xs4,false,true⟩]:=by
 refine ⟨h.1,fun w0 w A M vs hI hB hR hrc=>(h.2 w0 w A M vs hI hB hR hrc).mono ?_⟩
 rintro e w' ⟨u,A',M',rfl,h1,h2,h3,h4,h5⟩
 let M'':Id→Option MB:=fun id=>if id=.b 3∨id=.b 4 then (M' id).map fun m=>⟨m.b,1,m.sz,m.cap,m.ty⟩ else M' id
 have e3:∀ m,M' (.b 3)=some m→M'' (.b 3)=some ⟨m.b,1,m.sz,m.cap,m.ty⟩:=fun m hm=>by simp [M'',hm]
 have e4:∀ m,M' (.b 4)=some m→M'' (.b 4)=some ⟨m.b,1,m.sz,m.cap,m.ty⟩:=fun m hm=>by
  show (if (Id.b 4=.b 3∨Id.b 4=.b 4) then _ else _)=_
  rw [if_pos (.inr rfl),hm];rfl
 have eo:∀ id,id≠.b 3→id≠.b 4→M'' id=M' id:=fun id g1 g2=>by
  show (if _ then _ else _)=_
  rw [if_neg (fun e=>e.elim g1 g2)]
 have hsrc:∀ id m1,M'' id=some m1→∃ m0,M' id=some m0∧m1.b=m0.b∧m1.cap=m0.cap∧m1.sz=m0.sz∧m1.ty=m0.ty:=fun id m1 hm1=>by
  by_cases g3:id=.b 3
  · subst g3
    cases hm:M' (.b 3) with
    | none=>simp [M'',hm] at hm1
    | some m=>rw [e3 m hm] at hm1;simp only [Option.some.injEq] at hm1;subst hm1;exact ⟨m,rfl,rfl,rfl,rfl,rfl⟩
  · by_cases g4:id=.b 4
    · subst g4
      cases hm:M' (.b 4) with
      | none =>
       have:M'' (.b 4)=none:=by
        show (if (Id.b 4=.b 3∨Id.b 4=.b 4) then _ else _)=_
        rw [if_pos (.inr rfl),hm];rfl
       rw [this] at hm1;cases hm1
      | some m=>rw [e4 m hm] at hm1;simp only [Option.some.injEq] at hm1;subst hm1;exact ⟨m,rfl,rfl,rfl,rfl,rfl⟩
    · rw [eo id g3 g4] at hm1
      exact ⟨m1,hm1,rfl,rfl,rfl,rfl⟩
 have hosl:∀ (n v k:Nat) (c:Value) (m:MB),M' (.b n)=some m→M'' (.b n)=some ⟨m.b,1,m.sz,m.cap,m.ty⟩→v=m.ver→Rel w' A' M' c (.osl (.b n) v 0 k)→Rel w' A' M'' c (.osl (.b n) 1 0 k):=fun n v k c m hm hm'' hv hr=>by
  obtain ⟨m0,g1,g2,g3,g4⟩:=Rel.osl_inv hr
  rw [hm] at g1
  simp only [Option.some.injEq] at g1
  subst g1
  exact .osl c (.b n) 1 0 k _ hm'' (Nat.le_refl _) g3 fun _=>g4 hv
 have hbox:∀ (n:Nat) (bx:Box) (m:MB),[⟨0,1,t0,[x0],false,true⟩,⟨0,1,t1,[.osl (.b 3) v3 0 k3],false,false⟩,⟨0,1,t2,[.osl (.b 4) v4 0 k4],false,false⟩,⟨v3,s3,t3,xs3,false,true⟩,⟨v4,s4,t4,xs4,false,true⟩][n]?=some bx→M' (.b n)=some m→BoxAt w' A' M' w0.heap.size (.b n) m bx:=fun n bx m hn hm=>by
  obtain ⟨bx',g1,g2⟩:=h4.box _ m hm
  rw [xdL,hn] at g1
  simp only [Option.some.injEq] at g1
  subst g1
  exact g2
 have hpure:∀ (id:Id) (bx:Box) (m:MB) (v:Nat),isC bx.ty=false→bx.pm=true→BoxAt w' A' M' w0.heap.size id m bx→BoxAt w' A' M'' w0.heap.size id ⟨m.b,v,m.sz,m.cap,m.ty⟩ ⟨v,bx.sz,bx.ty,bx.xs,bx.frz,bx.pm⟩:=fun id bx m v hpl hp g=>by
  have hnm:isMapT m.ty=false:=g.nomap (xcf hpl)
  refine ⟨rfl,g.sz,g.ty,g.capm,g.fits,g.ok,g.low,g.lt,fun h0=>?_,g.guard⟩
  obtain ⟨c,c1,c2,c3⟩:=g.cells h0
  refine ⟨c,.of hnm (c1.plain hnm),c2,fun i j hi hj=>?_⟩
  have:=c3 i j hi hj
  rw [xaZ hpl,xcg hpl,hp] at this
  rw [xaZ hpl,xcg (bx:=⟨v,bx.sz,bx.ty,bx.xs,bx.frz,bx.pm⟩) hpl]
  show Rel w' A' (MP M'' bx.pm) _ _
  rw [hp]
  exact this
 have hvar:∀ (n n2 v k t:Nat) (m m2:MB),isC t=false→n≠3→n≠4→BoxAt w' A' M' w0.heap.size (.b n) m ⟨0,1,t,[.osl (.b n2) v 0 k],false,false⟩→M' (.b n2)=some m2→M'' (.b n2)=some ⟨m2.b,1,m2.sz,m2.cap,m2.ty⟩→v=m2.ver →
   BoxAt w' A' M'' w0.heap.size (.b n) m ⟨0,1,t,[.osl (.b n2) 1 0 k],false,false⟩:=fun n n2 v k t m m2 hpl _ _ g hm2 hm2'' hv=>by
  have hnm:isMapT m.ty=false:=g.nomap (xcf hpl)
  have hsz:m.sz=1:=g.sz.symm
  refine ⟨g.ver,g.sz,g.ty,g.capm,g.fits,fun y hy=>?_,g.low,g.lt,fun h0=>?_,g.guard⟩
  · simp only [List.mem_singleton] at hy
    subst hy
    rw [hsz];rfl
  · obtain ⟨c,c1,c2,c3⟩:=g.cells h0
    refine ⟨c,.of hnm (c1.plain hnm),c2,fun i j hi hj=>?_⟩
    have hi0:i=0:=by simpa using hi
    have hj0:j=0:=by omega
    subst hi0 hj0
    have:=c3 0 0 (by simp) hj
    rw [xaZ hpl,xcg hpl] at this
    rw [xaZ hpl,xcg (bx:=⟨0,1,t,[.osl (.b n2) 1 0 k],false,false⟩) hpl]
    exact hosl n2 v k _ m2 hm2 hm2'' hv this
 have hm3:∀ m,M (.b 3)=some m→m.ver=0:=fun m hm=>by
  obtain ⟨bx,g1,g2⟩:=hR.box _ m hm
  rw [←g2.ver]
  exact hz3 bx g1
 have hm4:∀ m,M (.b 4)=some m→m.ver=0:=fun m hm=>by
  obtain ⟨bx,g1,g2⟩:=hR.box _ m hm
  rw [←g2.ver]
  exact hz4 bx g1
 have hver3:∀ m,M' (.b 3)=some m→v3=m.ver:=fun m hm=>(hbox 3 _ m rfl hm).ver
 have hver4:∀ m,M' (.b 4)=some m→v4=m.ver:=fun m hm=>(hbox 4 _ m rfl hm).ver
 have hrow:∀ n i j m,M' (.r n i j)=some m→BoxAt w' A' M' w0.heap.size (.r n i j) m tombB∧n<5:=fun n i j m hm=>by
  obtain ⟨bx,g1,g2⟩:=h4.box _ m hm
  obtain ⟨b0,q1,_⟩:=xpJ g1
  have hn:n<5:=by
   have:=xfB q1
   simpa using this
  have hp:isC b0.ty=false:=by
   match n,hn with
   | 0,_=>simp only [List.getElem?_cons_zero,Option.some.injEq] at q1;subst q1;exact p0
   | 1,_=>simp only [List.getElem?_cons_zero,List.getElem?_cons_succ,Option.some.injEq] at q1;subst q1;exact p1
   | 2,_=>simp only [List.getElem?_cons_zero,List.getElem?_cons_succ,Option.some.injEq] at q1;subst q1;exact p2
   | 3,_=>simp only [List.getElem?_cons_zero,List.getElem?_cons_succ,Option.some.injEq] at q1;subst q1;exact p3
   | 4,_=>simp only [List.getElem?_cons_zero,List.getElem?_cons_succ,Option.some.injEq] at q1;subst q1;exact p4
  rw [xet q1 hp] at g1
  simp only [Option.some.injEq] at g1
  subst g1
  exact ⟨g2,hn⟩
 have hR':HR w' A' M'' w0.heap.size [⟨0,1,t0,[x0],false,true⟩,⟨0,1,t1,[.osl (.b 3) 1 0 k3],false,false⟩,⟨0,1,t2,[.osl (.b 4) 1 0 k4],false,false⟩,⟨1,s3,t3,xs3,false,true⟩,⟨1,s4,t4,xs4,false,true⟩]:=by
  refine ⟨fun id m1 hm1=>?_,fun id id' m1 m2 k1 k2 c1 c2 he=>?_,h4.lt⟩
  · obtain ⟨m0,g1,g2,g3,g4,g5⟩:=hsrc id m1 hm1
    cases id with
    | r n i j =>
     rw [eo (.r n i j) (fun e=>by cases e) (fun e=>by cases e),g1] at hm1
     simp only [Option.some.injEq] at hm1
     subst hm1
     obtain ⟨q1,q2⟩:=hrow n i j _ g1
     refine ⟨tombB,?_,?_⟩
     · match n,q2 with
       | 0,_=>exact xet rfl p0
       | 1,_=>exact xet rfl p1
       | 2,_=>exact xet rfl p2
       | 3,_=>exact xet rfl p3
       | 4,_=>exact xet rfl p4
     · have hv:tombB.ver=m0.ver:=q1.ver
       have:=hpure (.r n i j) tombB m0 m0.ver rfl rfl q1
       exact ⟨q1.ver,this.sz,this.ty,this.capm,this.fits,this.ok,this.low,this.lt,this.cells,this.guard⟩
    | b n =>
     have hn:n<5:=by
      obtain ⟨bx,q1,_⟩:=h4.box _ m0 g1
      have:=xfB q1
      simpa using this
     match n,hn with
     | 0,_ =>
      rw [eo (.b 0) (fun e=>by cases e) (fun e=>by cases e),g1] at hm1
      simp only [Option.some.injEq] at hm1
      subst hm1
      have q:=hbox 0 _ m0 rfl g1
      have:=hpure (.b 0) _ m0 m0.ver p0 rfl q
      exact ⟨⟨0,1,t0,[x0],false,true⟩,rfl,q.ver,this.sz,this.ty,this.capm,this.fits,this.ok,this.low,this.lt,this.cells,this.guard⟩
     | 1,_ =>
      rw [eo (.b 1) (fun e=>by cases e) (fun e=>by cases e),g1] at hm1
      simp only [Option.some.injEq] at hm1
      subst hm1
      have q:=hbox 1 _ m0 rfl g1
      have hc:0<m0.cap:=Nat.lt_of_lt_of_le Nat.zero_lt_one q.fits
      obtain ⟨c,c1,c2,c3⟩:=q.cells hc
      have hr:=c3 0 0 (by simp) (by rw [←q.sz];exact Nat.zero_lt_one)
      rw [xaZ p1,xcg (bx:=⟨0,1,t1,[.osl (.b 3) v3 0 k3],false,false⟩) p1] at hr
      have hr:Rel w' A' M' _ (.osl (.b 3) v3 0 k3):=hr
      obtain ⟨m3,a1,_⟩:=Rel.osl_inv hr
      exact ⟨_,rfl,hvar 1 3 v3 k3 t1 m0 m3 p1 (by decide) (by decide) q a1 (e3 m3 a1) (hver3 m3 a1)⟩
     | 2,_ =>
      rw [eo (.b 2) (fun e=>by cases e) (fun e=>by cases e),g1] at hm1
      simp only [Option.some.injEq] at hm1
      subst hm1
      have q:=hbox 2 _ m0 rfl g1
      have hc:0<m0.cap:=Nat.lt_of_lt_of_le Nat.zero_lt_one q.fits
      obtain ⟨c,c1,c2,c3⟩:=q.cells hc
      have hr:=c3 0 0 (by simp) (by rw [←q.sz];exact Nat.zero_lt_one)
      rw [xaZ p2,xcg (bx:=⟨0,1,t2,[.osl (.b 4) v4 0 k4],false,false⟩) p2] at hr
      have hr:Rel w' A' M' _ (.osl (.b 4) v4 0 k4):=hr
      obtain ⟨m4,a1,_⟩:=Rel.osl_inv hr
      exact ⟨_,rfl,hvar 2 4 v4 k4 t2 m0 m4 p2 (by decide) (by decide) q a1 (e4 m4 a1) (hver4 m4 a1)⟩
     | 3,_ =>
      rw [e3 m0 g1] at hm1
      simp only [Option.some.injEq] at hm1
      subst hm1
      exact ⟨_,rfl,hpure (.b 3) _ m0 1 p3 rfl (hbox 3 _ m0 rfl g1)⟩
     | 4,_ =>
      rw [e4 m0 g1] at hm1
      simp only [Option.some.injEq] at hm1
      subst hm1
      exact ⟨_,rfl,hpure (.b 4) _ m0 1 p4 rfl (hbox 4 _ m0 rfl g1)⟩
  · obtain ⟨n1,a1,a2,a3,_⟩:=hsrc id m1 k1
    obtain ⟨n2,b1,b2,b3,_⟩:=hsrc id' m2 k2
    exact h4.inj id id' n1 n2 a1 b1 (by omega) (by omega) (by rw [←a2,←b2,he])
 refine ⟨u,A',M'',rfl,h1,h2,⟨h3.size,h3.keep,h3.less,h3.more,fun id m hid hm=>?_,fun id m1 hm1 h0=>?_⟩,hR',?_⟩
 · obtain ⟨m',g1,g2⟩:=h3.ids id m hid hm
   by_cases q3:id=.b 3
   · subst q3
     exact ⟨_,e3 m' g1,.inr (by have:m.ver=0:=hm3 m hm;show m.ver<1;omega)⟩
   · by_cases q4:id=.b 4
     · subst q4
       exact ⟨_,e4 m' g1,.inr (by have:m.ver=0:=hm4 m hm;show m.ver<1;omega)⟩
     · exact ⟨m',by rw [eo id q3 q4];exact g1,g2⟩
 · obtain ⟨m0,g1,g2,g3,_⟩:=hsrc id m1 hm1
   rw [g2]
   exact h3.src id m0 g1 (by omega)
 · obtain ⟨vs',rfl,q1,_⟩:=h5.tuple_inv
   exact .tuple vs' [] q1 (by simp)
namespace M
open Go.Proofs
noncomputable def set2 (at0 n h:Int) (ns no:Nat) (sx ox:List AV):Option (Int×Nat×Nat×List AV×List AV):=(xni at0 n h ns no sx ox).bind fun p =>
 br (Nat.beq p.2.1 p.2.2.2.2.2.2.1&&Nat.beq p.2.2.2.1 p.2.2.2.2.2.2.2.2) (some (p.1,p.2.2.1,p.2.2.2.2.1,p.2.2.2.2.2.1,p.2.2.2.2.2.2.2.1)) none
noncomputable def xMK:List AV→List Box→Option (Bool×AV×List Box):=omOf (sCons (sEq (pInt IntKind.i64)) (sCons (sEq (pInt IntKind.i64)) (sCons (sEq (pOwn 0 0 0 0)) (sCons (sEq (pOwn 1 0 0 0)) (sCons (sEq (pOwn 2 0 0 0)) sNil)))))
 (pCons (pBox 0 1 3 false true (pCons (pInt IntKind.i64) pNil)) (pCons (pBox 0 1 84 false false (pCons (pOsl 3 0 0) pNil)) (pCons (pBox 0 1 53 false false (pCons (pOsl 4 0 0) pNil)) (pCons (pBox 0 2 86 false true pAny) (pCons (pBox 0 2 31 false true pAny) pNil)))))
 fun (at0,(n,(_,(_,(_,_))))) ((h,_),((ns,_),((no,_),(sx,(ox,_)))))=>((set2 at0 n h ns no sx ox).isSome,(.tuple [],[⟨0,1,3,[.int .i64 ((set2 at0 n h ns no sx ox).getD (0,0,0,[],[])).1],false,true⟩,⟨0,1,84,[.osl (.b 3) 1 0 ((set2 at0 n h ns no sx ox).getD (0,0,0,[],[])).2.1],false,false⟩,⟨0,1,53,[.osl (.b 4) 1 0 ((set2 at0 n h ns no sx ox).getD (0,0,0,[],[])).2.2.1],false,false⟩,⟨1,2,86,((set2 at0 n h ns no sx ox).getD (0,0,0,[],[])).2.2.2.1,false,true⟩,⟨1,2,31,((set2 at0 n h ns no sx ox).getD (0,0,0,[],[])).2.2.2.2,false,true⟩]))
theorem xP1:OmOk Tryz.prog ITryz 68 xMK:=xfQ fun vv bb rr hh' hh=>by
 obtain ⟨at0,⟨n,⟨_,⟨_,⟨_,_⟩⟩⟩⟩⟩:=vv
 obtain ⟨⟨h,_⟩,⟨⟨ns,_⟩,⟨⟨no,_⟩,⟨sx,⟨ox,_⟩⟩⟩⟩⟩:=bb
 obtain ⟨hh1,hh2⟩:=Prod.mk.inj hh
 cases hs:xni at0 n h ns no sx ox with
 | none=>rw [show set2 at0 n h ns no sx ox=none by unfold set2;rw [hs];rfl] at hh1;simp at hh1
 | some p =>
  have hs2:set2 at0 n h ns no sx ox=br (Nat.beq p.2.1 p.2.2.2.2.2.2.1&&Nat.beq p.2.2.2.1 p.2.2.2.2.2.2.2.2) (some (p.1,p.2.2.1,p.2.2.2.2.1,p.2.2.2.2.2.1,p.2.2.2.2.2.2.2.1)) none:=by unfold set2;rw [hs];rfl
  cases ht:Nat.beq p.2.1 p.2.2.2.2.2.2.1&&Nat.beq p.2.2.2.1 p.2.2.2.2.2.2.2.2 with
  | false=>rw [hs2,ht] at hh1;simp [br] at hh1
  | true =>
   rw [ht] at hs2
   have hs3:set2 at0 n h ns no sx ox=some (p.1,p.2.2.1,p.2.2.2.2.1,p.2.2.2.2.2.1,p.2.2.2.2.2.2.2.1):=hs2
   rw [hs3] at hh2
   simp only [Option.getD_some] at hh2
   simp only [Bool.and_eq_true] at ht
   have e1:=Nat.eq_of_beq_eq_true ht.1
   have e2:=Nat.eq_of_beq_eq_true ht.2
   have hx:=xIA at0 n h ns no sx ox p hs
   have hg:GoodM Tryz.prog ITryz 68 _ _ _ _:=xdv (p:=xlH.pin) (xdZ mxTryz (inv0Ok Tryz.prog _) rfl xCf rfl Tryz.func68 rfl (by kernel_rfl) xAc hx)
   rw [←e1,←e2] at hg
   have hg2:=GoodM.aged rfl (fun bx hb=>by simp only [List.getElem?_cons_zero,List.getElem?_cons_succ,Option.some.injEq] at hb;subst hb;rfl) (fun bx hb=>by simp only [List.getElem?_cons_zero,List.getElem?_cons_succ,Option.some.injEq] at hb;subst hb;rfl) rfl rfl rfl rfl rfl hg
   obtain ⟨rfl,rfl⟩:=Prod.mk.inj hh2
   exact hg2
noncomputable def ESet:Env:=EKP1.withM 68 xMK
theorem xFq:OrcOk Tryz.prog ITryz ESet:=xAL.withM xP1
end M
end Go.Sim
end
noncomputable section
set_option maxRecDepth 100000
namespace Go.Sim.M
open Go.IntKind (i64 u64 u8)
open Go.RowKit Go.Proofs
def xhJ:Env:=ESet.fn 30 0 (lsOf []) (lpsOf [])
theorem xzS:OrcOk Tryz.prog (ITryz.at 0) xhJ:=xFq.fn
theorem xuS:LoOk Tryz.prog (ITryz.at xhJ.pin) xhJ (loopAt Tryz.f44 0):=xaq (by kernel_rfl)
def xmR (a:LA) (h b:Int) (f c:Nat) (g:Int) (d e:LA):Int:=if 0>((a.getD b.toNat .top).cells.getD 1 .top).toInt then 0 else ((a.getD b.toNat .top).cells.getD 1 .top).toInt
def xmH (f:LA) (h g:Int) (d a:Nat) (e:Int) (b c:LA):=set2 ((f.getD g.toNat .top).cells.getD 0 .top).toInt (if 1048576<xmR f h g d a e b c then 1048576 else xmR f h g d a e b c) e a d c b
def xml (f:LA) (g h:Int) (d a:Nat) (e:Int) (b c:LA):=(xmH f g h d a e b c).getD (0,0,0,[],[])
def xm3 (f:LA) (g h:Int) (d a:Nat) (e:Int) (b c:LA):=(xml f g h d a e b c).snd
def xm5 (f:LA) (g h:Int) (d a:Nat) (e:Int) (b c:LA):=(xm3 f g h d a e b c).fst
def xmO (f:LA) (g h:Int) (d a:Nat) (e:Int) (b c:LA):=(xm3 f g h d a e b c).snd
def xmV (f:LA) (g h:Int) (d a:Nat) (e:Int) (b c:LA):=(xmO f g h d a e b c).snd
def xin {T:Type} (f:LA) (h d:Int) (e a:Nat) (g:Int) (b c:LA) (δ:T) (κl:(Int×Nat×Nat×Int×LA×LA)→T) (κr:(Nat×Int×Nat×LA×LA)→T):T:=br (decide (d<h)) (br (decide (0≤d)&&decide (d<f.length)) (br (decide (d.toNat<f.length)&&((f.getD d.toNat .top).cells.length==2&&hasShs [Sh.int .i64,Sh.int .i64] (f.getD d.toNat .top).cells 0)) (br ((xmH f h d e a g b c).isSome) (κl (i64.wrap (d+1),(xmO f h d e a g b c).fst,xm5 f h d e a g b c,(xml f h d e a g b c).fst,(xmV f h d e a g b c).snd,List.take (xm5 f h d e a g b c) (xmV f h d e a g b c).fst)) δ) δ) δ) (κr (e,g,a,b,c))
def xcr (f:LA) (g:Int):(Int×Nat×Nat×Int×LA×LA)→Option ((Int×Nat×Nat×Int×LA×LA)⊕(Nat×Int×Nat×LA×LA)):=fun (h,d,a,e,b,c)=>xin f g h d a e b c none (fun s=>some (.inl s)) (fun p=>some (.inr p))
def xgl (f:LA) (g:Int):(Int×Nat×Nat×Int×LA×LA)→LA×List Box:=fun (h,d,a,e,b,c)=>([AV.own 0 0 0 0,AV.own 1 0 0 0,AV.func 68 [AV.own 2 0 0 0,AV.own 1 0 0 0,AV.own 0 0 0 0],AV.list 2 f,AV.int .i64 g,AV.int .i64 h],[⟨0,1,53,[AV.osl 3 0 0 d],false,false⟩,⟨0,1,84,[AV.osl 4 0 0 a],false,false⟩,⟨0,1,3,[AV.int .i64 e],false,true⟩,⟨0,2,31,b,false,true⟩,⟨0,2,86,c,false,true⟩])
def xfu (a:LA) (b:Int):(Nat×Int×Nat×LA×LA)→LR:=fun p=>(.leaf (.exit 0) [AV.own 0 0 0 0,AV.func 68 [AV.own 1 0 0 0,AV.own 2 0 0 0,AV.own 0 0 0 0]] [⟨0,1,53,[AV.osl 3 0 0 p.1],false,false⟩,⟨0,1,3,[AV.int .i64 p.2.1],false,true⟩,⟨0,1,84,[AV.osl 4 0 0 p.2.2.1],false,false⟩,⟨0,2,31,p.2.2.2.1,false,true⟩,⟨0,2,86,p.2.2.2.2,false,true⟩])
abbrev xBs (a:LA) (H:List Box):=XR Tryz.prog xhJ [3,4,6,10,11,12] [3,6] [(3,2,31),(4,2,86),(4,0,0)] (loopAt Tryz.f44 0) a H
theorem xBA (a:LA) (b:Int) (s:Int×Nat×Nat×Int×LA×LA):Enc (encR (xgl a b) (xfu a b)) (xcr a b s) (xBs (xgl a b s).1 (xgl a b s).2):=by
 obtain ⟨h,f,c,g,d,e⟩:=s
 refine eV (xin a b h f c g d e none (fun s=>some (encR (xgl a b) (xfu a b) (.inl s))) (fun p=>some (encR (xgl a b) (xfu a b) (.inr p)))) (by kernel_rfl) ?_;unfold xcr xin;repeat' first|exact eN|exact eS rfl|apply eB
def xse:Lp:=lpOf [3,4,6,10,11,12] [3,6] [(3,2,31),(4,2,86),(4,0,0)] (pCons (pOwn 0 0 0 0) (pCons (pOwn 1 0 0 0) (pCons (pFunc 68 (pCons (pOwn 2 0 0 0) (pCons (pOwn 1 0 0 0) (pCons (pOwn 0 0 0 0) pNil)))) (pCons (pList 2 pAny) (pCons (pInt .i64) (pCons (pInt .i64) pNil)))))) (pCons (pBox 0 1 53 false false (pCons (pOsl 3 0 0) pNil)) (pCons (pBox 0 1 84 false false (pCons (pOsl 4 0 0) pNil)) (pCons (pBox 0 1 3 false true (pCons (pInt .i64) pNil)) (pCons (pBox 0 2 31 false true pAny) (pCons (pBox 0 2 86 false true pAny) pNil))))) fun (_,(_,((_,(_,(_,_))),(e,(f,(h,_)))))) ((d,_),((a,_),((g,_),(b,(c,_)))))=>((Iter (xcr e f) (h,d,a,g,b,c)).isSome,xfu e f ((Iter (xcr e f) (h,d,a,g,b,c)).getD (0,0,0,[],[])))
theorem xyW:LoopOk Tryz.prog (ITryz.at xhJ.pin) xhJ.nt (loopAt Tryz.f44 0) xse:=xaY fun j k m l=>by
 obtain ⟨_,⟨_,⟨⟨_,⟨_,⟨_,_⟩⟩⟩,⟨d,⟨e,⟨h,_⟩⟩⟩⟩⟩⟩:=j
 obtain ⟨⟨f,_⟩,⟨⟨a,_⟩,⟨⟨g,_⟩,⟨b,⟨c,_⟩⟩⟩⟩⟩:=k
 obtain ⟨i,rfl⟩:=Prod.mk.inj l
 exact xaG mxTryz (inv0Ok Tryz.prog _) rfl xzS xuS (xgl d e) (xfu d e) (fun p=>by simp only [xfu,LR.eval];first|(simp;done)|(repeat' split<;>simp)) (xBA d e) (s:=(h,f,a,g,b,c)) (xab i)
def xkd:Env:=ESet.fn 30 0 (lsOf []) (lpsOf [(6,xse)])
theorem xAz:OrcOk Tryz.prog (ITryz.at 0) xkd:=xFq.fn
theorem xwx:LoOk Tryz.prog (ITryz.at xkd.pin) xkd (Tryz.f44.body.getD .skip):=xaP (ls:=[loopAt Tryz.f44 0]) (by kernel_rfl) (lkC xyW lkN)
def xqj (l:LA):=Iter (xcr l (↑l.length:Int)) (0,0,0,0,[],[])
def xp5 (l:LA):=(xqj l).getD (0,0,0,[],[])
def xqb (l:LA):=(xp5 l).snd
def xpC (l:LA):=(xqb l).snd
def xqy (l:LA):=(xpC l).snd
def xpM (l:LA):=set2 1099511627776 0 (xqb l).fst (xpC l).fst (xp5 l).fst (xqy l).snd (xqy l).fst
def xqo (l:LA):=((xpM l).getD (0,0,0,[],[])).snd.snd
def xj4 (l:LA):=(xqo l).fst
def xjT (l:LA):=(xqo l).snd.snd
def xnc {T:Type} (l:LA) (δ:T) (κ:LA→T):T:=br ((xqj l).isSome) (br ((xpM l).isSome) (br ((xj4 l).beq (xjT l).length&&(decide (xj4 l<4611686018427387904)&&(xjT l).all isP)) (br (decide (0+xj4 l≤(srtP (xjT l)).length)&&true) (κ (List.take (xj4 l) (List.drop 0 (srtP (xjT l))))) δ) δ) δ) δ
def xhr (l:LA):Option (LA):=xnc l none some
theorem xFd (l:LA):Enc (fun (p:LA)=>((AV.list 2 p):AV)) (xhr l) (XF Tryz.prog xkd Tryz.f44 (Tryz.f44.body.getD .skip) [AV.list 2 l]):=by
 refine eV (xnc l none (fun (p:LA)=>some ((AV.list 2 p):AV))) (by kernel_rfl) ?_;unfold xhr xnc;repeat' first|exact eN|exact eS rfl|apply eB
def xwc:LA→Option (Bool×AV):=ocOf (sCons (sList 2 pAny) sNil) fun (l,_)=>((xhr l).isSome,(AV.list 2 ((xhr l).getD [])))
theorem xEF:OcOk Tryz.prog ITryz 44 (xwc):=xaN fun c f e=>by
 obtain ⟨l,_⟩:=c
 obtain ⟨a,b⟩:=Prod.mk.inj e
 refine xaH (p:=xkd.pin) (xaL mxTryz (inv0Ok Tryz.prog _) rfl xAz Tryz.func44 rfl (by kernel_rfl) xwx ((xFd _ _ (xab (d:=[]) a)).trans ?_))
 exact congrArg some b
def xIr:Env:=ESet.with 44 xwc
theorem xGu:OrcOk Tryz.prog ITryz xIr:=xFq.with xEF
def xiS:Env:=xIr.fn 10 0 (lsOf []) (lpsOf [])
theorem xyR:OrcOk Tryz.prog (ITryz.at 0) xiS:=xGu.fn
theorem xwa:LoOk Tryz.prog (ITryz.at xiS.pin) xiS (Tryz.f43.body.getD .skip):=xaq (by kernel_rfl)
def xmc {T:Type} (a:LA) (δ:T) (κ:LA→T):T:=br ((↑a.length:Int)==1) (κ (a)) (br ((xda a).isSome) (br ((xhr ((xda a).getD [])).isSome) (κ ((xhr ((xda a).getD [])).getD [])) δ) δ)
def xdM (a:LA):Option (LA):=xmc a none some
theorem xD6 (a:LA):Enc (fun (p:LA)=>((AV.list 2 p):AV)) (xdM a) (XF Tryz.prog xiS Tryz.f43 (Tryz.f43.body.getD .skip) [AV.list 2 a]):=by
 refine eV (xmc a none (fun (p:LA)=>some ((AV.list 2 p):AV))) (by kernel_rfl) ?_;unfold xdM xmc;repeat' first|exact eN|exact eS rfl|apply eB
def xun:LA→Option (Bool×AV):=ocOf (sCons (sList 2 pAny) sNil) fun (a,_)=>((xdM a).isSome,(AV.list 2 ((xdM a).getD [])))
theorem xEB:OcOk Tryz.prog ITryz 43 (xun):=xaN fun c f e=>by
 obtain ⟨g,_⟩:=c
 obtain ⟨a,b⟩:=Prod.mk.inj e
 refine xaH (p:=xiS.pin) (xaL mxTryz (inv0Ok Tryz.prog _) rfl xyR Tryz.func43 rfl (by kernel_rfl) xwa ((xD6 _ _ (xab (d:=[]) a)).trans ?_))
 exact congrArg some b
def xLU:Env:=xIr.with 43 xun
theorem xLl:OrcOk Tryz.prog ITryz xLU:=xGu.with xEB
abbrev EKP3:Env:=xLU
theorem xPq:OrcOk Tryz.prog ITryz EKP3:=xLl
end Go.Sim.M
end
noncomputable section
set_option maxRecDepth 100000
namespace Go.Sim.M
open Go.IntKind (i64 u64 u8)
open Go.RowKit Go.Proofs
def xDA {T:Type} (b e:LA) (f:Int) (c:Nat) (a:Int) (d:LA) (δ:T) (κl:(Nat×Int×LA)→T) (κr:(Nat×LA)→T):T:=br (decide (a<f)) (br (decide (0≤a)&&decide (a<e.length)) (br (decide (a.toNat<e.length)&&((e.getD a.toNat .top).cells.length==2&&hasShs [Sh.int .i64,Sh.int .i64] (e.getD a.toNat .top).cells 0)) (br (xdm ((e.getD a.toNat .top).cells.getD 0 .top).toInt ((e.getD a.toNat .top).cells.getD 1 .top).toInt) (br (c==d.length&&(decide ((c+2)*24≤140737488355328)&&decide (c+2≤4611686018427387904))) (κl (c+2,i64.wrap (a+1),d++[AV.agg [AV.int .i64 ((e.getD a.toNat .top).cells.getD 0 .top).toInt,AV.int .i64 1,AV.int .i64 0],AV.agg [AV.int .i64 ((e.getD a.toNat .top).cells.getD 1 .top).toInt,AV.int .i64 (-1),AV.int .i64 0]])) δ) (κl (c,i64.wrap (a+1),d))) δ) δ) (κr (c,d))
def xrA (b d:LA) (e:Int):(Nat×Int×LA)→Option ((Nat×Int×LA)⊕(Nat×LA)):=fun (c,f,a)=>xDA b d e c f a none (fun s=>some (.inl s)) (fun p=>some (.inr p))
def xDX {T:Type} (d:LA) (e:Int) (b:Nat) (a:Int) (c:LA) (δ:T) (κl:(Nat×Int×LA)→T) (κr:(Nat×LA)→T):T:=br (decide (a<e)) (br (decide (0≤a)&&decide (a<d.length)) (br (decide (a.toNat<d.length)&&((d.getD a.toNat .top).cells.length==2&&hasShs [Sh.int .i64,Sh.int .i64] (d.getD a.toNat .top).cells 0)) (br (xdm ((d.getD a.toNat .top).cells.getD 0 .top).toInt ((d.getD a.toNat .top).cells.getD 1 .top).toInt) (br (b==c.length&&(decide ((b+2)*24≤140737488355328)&&decide (b+2≤4611686018427387904))) (κl (b+2,i64.wrap (a+1),c++[AV.agg [AV.int .i64 ((d.getD a.toNat .top).cells.getD 0 .top).toInt,AV.int .i64 0,AV.int .i64 1],AV.agg [AV.int .i64 ((d.getD a.toNat .top).cells.getD 1 .top).toInt,AV.int .i64 0,AV.int .i64 (-1)]])) δ) (κl (b,i64.wrap (a+1),c))) δ) δ) (κr (b,c))
def xz2 (c:LA) (d:Int):(Nat×Int×LA)→Option ((Nat×Int×LA)⊕(Nat×LA)):=fun (b,e,a)=>xDX c d b e a none (fun s=>some (.inl s)) (fun p=>some (.inr p))
def xyq (a b:LA):=(Iter (xrA b a (↑a.length:Int)) (0,0,[])).getD (0,[])
def xw9 (a b:LA):=Iter (xz2 b (↑b.length:Int)) ((xyq a b).fst,0,(xyq a b).snd)
def xyc (a b:LA):=(xw9 a b).getD (0,[])
def xow (a b:LA):=(xyc a b).fst
def xoq (a b:LA):=(xyc a b).snd
def xHr {T:Type} (a b:LA) (δ:T) (κ:LA→T):T:=br ((Iter (xrA b a (↑a.length:Int)) (0,0,[])).isSome) (br ((xw9 a b).isSome) (br ((xow a b).beq (xoq a b).length&&(decide (xow a b<4611686018427387904)&&(xoq a b).all isE)) (br (decide (0+xow a b≤(srtE (xoq a b)).length)&&true) (κ (List.take (xow a b) (List.drop 0 (srtE (xoq a b))))) δ) δ) δ) δ
def xDp (a b:LA):Option (LA):=xHr a b none some
abbrev xMq:Env:=EKP3
theorem xM0:OrcOk Tryz.prog ITryz xMq:=xPq
def xMk (a b:Bool):Bool:=((a))
abbrev xL1:Env:=xMq
theorem xLD:OrcOk Tryz.prog ITryz xL1:=xM0
def xmL (l:LA) (i:Int):=decide (0≤i)&&decide (i<l.length)
def xA6 {T:Type} (l:LA) (e:Nat) (d b c i:Int) (a:LA) (δ:T) (κl:(Int×Int×Int×LA)→T) (κr:(Int×Int×Int×LA)→T):T:=br (decide (i<l.length)) (br (xmL l i) (br (decide (i.toNat<l.length)&&hasSh1 (Sh.int .i64) ((l.getD i.toNat .top).cells.getD 0 .top)) (br (((l.getD i.toNat .top).cells.getD 0 .top).toInt==d) (br (xmL l i) (br (decide (i.toNat<l.length)&&hasSh1 (Sh.int .i64) ((l.getD i.toNat .top).cells.getD 1 .top)) (br (xmL l i) (br (decide (i.toNat<l.length)&&hasSh1 (Sh.int .i64) ((l.getD i.toNat .top).cells.getD 2 .top)) (κl (i64.wrap (b+((l.getD i.toNat .top).cells.getD 1 .top).toInt),i64.wrap (c+((l.getD i.toNat .top).cells.getD 2 .top).toInt),i64.wrap (i+1),a)) δ) δ) δ) δ) (κr (b,c,i,a))) δ) δ) (κr (b,c,i,a))
def xqs (l:LA) (b:Nat) (c:Int):(Int×Int×Int×LA)→Option ((Int×Int×Int×LA)⊕(Int×Int×Int×LA)):=fun (d,e,i,a)=>xA6 l b c d e i a none (fun s=>some (.inl s)) (fun p=>some (.inr p))
def xj9 (a:Nat):=decide (0≤i64.wrap ((↑a:Int) - 1))&&decide (i64.wrap ((↑a:Int) - 1)<(↑a:Int))
def xqx (l:LA) (b:Nat) (d e i c:Int) (a:LA):=(Iter (xqs l b c) (d,e,i,a)).getD (0,0,0,[])
def xbC (a:Nat):Nat:=0+(i64.wrap ((↑a:Int) - 1)).toNat
def xrK (l:LA) (b:Nat) (d e i c:Int) (a:LA):=(xqx l b d e i c a).snd
def xc5 (l:LA) (b:Nat) (d e i c:Int) (a:LA):=(xqx l b d e i c a).fst
def xrU (l:LA) (b:Nat) (d e i c:Int) (a:LA):=(xrK l b d e i c a).snd
def xc6 (l:LA) (b:Nat) (d e i c:Int) (a:LA):=(xrK l b d e i c a).fst
def xaK (l:LA) (b:Nat) (d e i c:Int) (a:LA):=(xrU l b d e i c a).snd
def xrz (l:LA) (b:Nat) (d e i c:Int) (a:LA):=xMk (decide (xc5 l b d e i c a>0)) (decide (xc6 l b d e i c a>0))
def xaO (l:LA) (b:Nat) (d e i c:Int) (a:LA):=(xrU l b d e i c a).fst
def xj3 (l:LA) (a:Nat) (d e i c:Int) (b:LA):=decide (xbC a<(xaK l a d e i c b).length)
def xsc (l:LA) (b:Nat) (d e i c:Int) (a:LA):=decide (xaO l b d e i c a<l.length)
def xBz {T:Type} (l:LA) (a:Nat) (d e i c:Int) (b:LA) (δ:T) (κl:(Nat×Int×Int×Int×Int×LA)→T) (κr:(Nat×LA)→T):T:=br (decide (c<1099511627776)) (br ((Iter (xqs l a c) (d,e,i,b)).isSome) (br (xsc l a d e i c b) (br (decide (0≤xaO l a d e i c b)&&xsc l a d e i c b) (br (decide ((xaO l a d e i c b).toNat<l.length)&&hasSh1 (Sh.int .i64) ((l.getD (xaO l a d e i c b).toNat .top).cells.getD 0 .top)) (br (xrz l a d e i c b) (br (decide ((↑a:Int)>0)) (br (xj9 a) (br (xj3 l a d e i c b&&hasSh1 (Sh.int .i64) (((xaK l a d e i c b).getD (xbC a) .top).cells.getD 1 .top)) (br ((((xaK l a d e i c b).getD (xbC a) .top).cells.getD 1 .top).toInt==c) (br (xj9 a) (br (xj3 l a d e i c b) (κl (a,xc5 l a d e i c b,xc6 l a d e i c b,xaO l a d e i c b,((l.getD (xaO l a d e i c b).toNat .top).cells.getD 0 .top).toInt,(xaK l a d e i c b).set (xbC a) (AV.agg (List.take 1 ((xaK l a d e i c b).getD (xbC a) .top).cells++[AV.int .i64 ((l.getD (xaO l a d e i c b).toNat .top).cells.getD 0 .top).toInt]++List.drop 2 ((xaK l a d e i c b).getD (xbC a) .top).cells)))) δ) δ) (br (a==(xaK l a d e i c b).length&&(decide ((a+1)*16≤140737488355328)&&decide (a+1≤4611686018427387904))) (κl (a+1,xc5 l a d e i c b,xc6 l a d e i c b,xaO l a d e i c b,((l.getD (xaO l a d e i c b).toNat .top).cells.getD 0 .top).toInt,xaK l a d e i c b++[AV.agg [AV.int .i64 c,AV.int .i64 ((l.getD (xaO l a d e i c b).toNat .top).cells.getD 0 .top).toInt]])) δ)) δ) δ) (br (a==(xaK l a d e i c b).length&&(decide ((a+1)*16≤140737488355328)&&decide (a+1≤4611686018427387904))) (κl (a+1,xc5 l a d e i c b,xc6 l a d e i c b,xaO l a d e i c b,((l.getD (xaO l a d e i c b).toNat .top).cells.getD 0 .top).toInt,xaK l a d e i c b++[AV.agg [AV.int .i64 c,AV.int .i64 ((l.getD (xaO l a d e i c b).toNat .top).cells.getD 0 .top).toInt]])) δ)) (κl (a,xc5 l a d e i c b,xc6 l a d e i c b,xaO l a d e i c b,((l.getD (xaO l a d e i c b).toNat .top).cells.getD 0 .top).toInt,xaK l a d e i c b))) δ) δ) (br (xrz l a d e i c b) (br (decide ((↑a:Int)>0)) (br (xj9 a) (br (xj3 l a d e i c b&&hasSh1 (Sh.int .i64) (((xaK l a d e i c b).getD (xbC a) .top).cells.getD 1 .top)) (br ((((xaK l a d e i c b).getD (xbC a) .top).cells.getD 1 .top).toInt==c) (br (xj9 a) (br (xj3 l a d e i c b) (κl (a,xc5 l a d e i c b,xc6 l a d e i c b,xaO l a d e i c b,1099511627776,(xaK l a d e i c b).set (xbC a) (AV.agg (List.take 1 ((xaK l a d e i c b).getD (xbC a) .top).cells++[AV.int .i64 1099511627776]++List.drop 2 ((xaK l a d e i c b).getD (xbC a) .top).cells)))) δ) δ) (br (a==(xaK l a d e i c b).length&&(decide ((a+1)*16≤140737488355328)&&decide (a+1≤4611686018427387904))) (κl (a+1,xc5 l a d e i c b,xc6 l a d e i c b,xaO l a d e i c b,1099511627776,xaK l a d e i c b++[AV.agg [AV.int .i64 c,AV.int .i64 1099511627776]])) δ)) δ) δ) (br (a==(xaK l a d e i c b).length&&(decide ((a+1)*16≤140737488355328)&&decide (a+1≤4611686018427387904))) (κl (a+1,xc5 l a d e i c b,xc6 l a d e i c b,xaO l a d e i c b,1099511627776,xaK l a d e i c b++[AV.agg [AV.int .i64 c,AV.int .i64 1099511627776]])) δ)) (κl (a,xc5 l a d e i c b,xc6 l a d e i c b,xaO l a d e i c b,1099511627776,xaK l a d e i c b)))) δ) (κr (a,b))
def xwX (l:LA):(Nat×Int×Int×Int×Int×LA)→Option ((Nat×Int×Int×Int×Int×LA)⊕(Nat×LA)):=fun (b,d,e,i,c,a)=>xBz l b d e i c a none (fun s=>some (.inl s)) (fun p=>some (.inr p))
def xur (a b:LA):=Iter (xwX ((xDp a b).getD [])) (0,0,0,0,0,[])
def xt8 (a b:LA):=(xur a b).getD (0,[])
def xuu (a b:LA):=(xt8 a b).snd
def xum (a b:LA):=(xt8 a b).fst
def xFj {T:Type} (a b:LA) (δ:T) (κ:LA→T):T:=br ((xDp a b).isSome) (br ((xur a b).isSome) (br (decide (0+xum a b≤(xuu a b).length)&&true) (κ (List.take (xum a b) (List.drop 0 (xuu a b)))) δ) δ) δ
def xzX (a b:LA):Option (LA):=xFj a b none some
abbrev xL9:Env:=xL1
theorem xMX:OrcOk Tryz.prog ITryz xL9:=xLD
def xLQ {T:Type} (l:LA) (δ:T) (κ:LA→T):T:=br ((xzX l []).isSome) (κ ((xzX l []).getD [])) δ
def xAE (l:LA):Option (LA):=xLQ l none some
abbrev xLv:Env:=xL9
theorem xLF:OrcOk Tryz.prog ITryz xLv:=xMX
abbrev EKP4:Env:=xLv
theorem xAH:OrcOk Tryz.prog ITryz EKP4:=xLF
end Go.Sim.M
end
noncomputable section
set_option maxRecDepth 100000
namespace Go.Sim.M
open Go.IntKind (i64 u64 u8)
open Go.RowKit Go.Proofs
def xe9:Env:=EKP4.fn 38 0 (lsOf [42]) (lpsOf [])
theorem xvn:OrcOk Tryz.prog (ITryz.at 0) xe9:=xAH.fn
theorem xsv:LoOk Tryz.prog (ITryz.at xe9.pin) xe9 (loopAt Tryz.f42 1):=xaq (by kernel_rfl)
def xfN {T:Type} (h:LA) (i j:Int) (e:LA) (f:Int) (a:Nat) (b:Int) (c d g:LA) (δ:T) (κl:(Nat×Int×LA×LA×LA)→T) (κr:(Nat×LA)→T):T:=br (decide (b<f)) (br (decide (0≤b)&&decide (b<e.length)) (br (decide (b.toNat<e.length)&&((e.getD b.toNat .top).cells.length==2&&hasShs [Sh.int .i64,Sh.int .i64] (e.getD b.toNat .top).cells 0)) (br (decide (d.length*32≤140737488355328)&&decide (d.length≤4611686018427387904)) (br (decide (0+d.length≤d.length)&&true&&true&&true&&true) (br (a==c.length&&(decide ((a+1)*40≤140737488355328)&&decide (a+1≤4611686018427387904))) (κl (a+1,i64.wrap (b+1),c++[AV.agg [AV.list 3 (List.take d.length (List.drop 0 d)),AV.int .i64 ((e.getD b.toNat .top).cells.getD 0 .top).toInt,AV.int .i64 ((e.getD b.toNat .top).cells.getD 1 .top).toInt]],d,g)) δ) δ) δ) δ) δ) (κr (a,c))
def xbr (c:LA) (d e:Int) (f:LA) (g:Int):(Nat×Int×LA×LA×LA)→Option ((Nat×Int×LA×LA×LA)⊕(Nat×LA)):=fun (b,h,a,i,j)=>xfN c d e f g b h a i j none (fun s=>some (.inl s)) (fun p=>some (.inr p))
def xeg (c:LA) (d e:Int) (f:LA) (g:Int):(Nat×Int×LA×LA×LA)→LA×List Box:=fun (b,h,a,i,j)=>([AV.func 43 [],AV.osl 0 0 0 b,AV.own 1 0 0 0,AV.list 2 c,AV.int .i64 d,AV.int .i64 e,AV.list 2 f,AV.int .i64 g,AV.int .i64 h],[⟨0,3,42,a,false,true⟩,⟨0,2,83,[AV.agg [AV.list 3 i,AV.list 2 j]],false,true⟩])
def xdy (a:LA) (b c:Int) (d:LA) (e:Int):(Nat×LA)→LR:=fun p=>(.leaf (.exit 2) [AV.func 43 [],AV.osl 0 0 0 p.1,AV.list 2 a,AV.int .i64 b,AV.int .i64 c] [⟨0,3,42,p.2,false,true⟩])
abbrev xvC (a:LA) (H:List Box):=XR Tryz.prog xe9 [1,5,7,11,12,13,20,21,22] [1,5,11,12,13] [(5,3,42)] (loopAt Tryz.f42 1) a H
theorem xvV (a:LA) (b c:Int) (d:LA) (e:Int) (s:Nat×Int×LA×LA×LA):Enc (encR (xeg a b c d e) (xdy a b c d e)) (xbr a b c d e s) (xvC (xeg a b c d e s).1 (xeg a b c d e s).2):=by
 obtain ⟨g,h,f,i,j⟩:=s
 refine eV (xfN a b c d e g h f i j none (fun s=>some (encR (xeg a b c d e) (xdy a b c d e) (.inl s))) (fun p=>some (encR (xeg a b c d e) (xdy a b c d e) (.inr p)))) (by kernel_rfl) ?_;unfold xbr xfN;repeat' first|exact eN|exact eS rfl|apply eB
def xkj:Lp:=lpOf [1,5,7,11,12,13,20,21,22] [1,5,11,12,13] [(5,3,42)] (pCons (pFunc 43 pNil) (pCons (pOsl 0 0 0) (pCons (pOwn 1 0 0 0) (pCons (pList 2 pAny) (pCons (pInt .i64) (pCons (pInt .i64) (pCons (pList 2 pAny) (pCons (pInt .i64) (pCons (pInt .i64) pNil))))))))) (pCons (pBox 0 3 42 false true pAny) (pCons (pBox 0 2 83 false true (pCons (pAgg (pCons (pList 3 pAny) (pCons (pList 2 pAny) pNil))) pNil)) pNil)) fun (_,(b,(_,(c,(d,(e,(f,(g,(h,_))))))))) (a,(((i,(j,_)),_),_))=>((Iter (xbr c d e f g) (b,h,a,i,j)).isSome,xdy c d e f g ((Iter (xbr c d e f g) (b,h,a,i,j)).getD (0,[])))
theorem xnN:LoopOk Tryz.prog (ITryz.at xe9.pin) xe9.nt (loopAt Tryz.f42 1) xkj:=xaY fun l m o n=>by
 obtain ⟨_,⟨g,⟨_,⟨a,⟨b,⟨c,⟨d,⟨e,⟨h,_⟩⟩⟩⟩⟩⟩⟩⟩⟩:=l
 obtain ⟨f,⟨⟨⟨i,⟨j,_⟩⟩,_⟩,_⟩⟩:=m
 obtain ⟨k,rfl⟩:=Prod.mk.inj n
 exact xaG mxTryz (inv0Ok Tryz.prog _) rfl xvn xsv (xeg a b c d e) (xdy a b c d e) (fun p=>by simp only [xdy,LR.eval];first|(simp;done)|(repeat' split<;>simp)) (xvV a b c d e) (s:=(g,h,f,i,j)) (xab k)
def xfk:Env:=EKP4.fn 38 0 (lsOf [42]) (lpsOf [(6,xkj)])
theorem xvi:OrcOk Tryz.prog (ITryz.at 0) xfk:=xAH.fn
theorem xsi:LoOk Tryz.prog (ITryz.at xfk.pin) xfk (loopAt Tryz.f42 0):=xaP (ls:=[loopAt Tryz.f42 1]) (by kernel_rfl) (lkC xnN lkN)
def xkl (a:LA) (e:Int) (d:Nat) (b:Int) (c:LA):=Iter (xbr a e b ((xdM ((a.getD b.toNat .top).cells.getD 1 .top).toList).getD []) (↑((xdM ((a.getD b.toNat .top).cells.getD 1 .top).toList).getD []).length:Int)) (d,0,c,((a.getD b.toNat .top).cells.getD 0 .top).toList,((a.getD b.toNat .top).cells.getD 1 .top).toList)
def xkq (c:LA) (d:Int) (b:Nat) (e:Int) (a:LA):=(xkl c d b e a).getD (0,[])
def xfR {T:Type} (c:LA) (e:Int) (d:Nat) (a:Int) (b:LA) (δ:T) (κl:(Nat×Int×LA)→T) (κr:(Nat×LA)→T):T:=br (decide (a<e)) (br (decide (0≤a)&&decide (a<c.length)) (br (decide (a.toNat<c.length)&&((c.getD a.toNat .top).cells.length==2&&hasShs [Sh.list 3,Sh.list 2] (c.getD a.toNat .top).cells 0)) (br ((xdM ((c.getD a.toNat .top).cells.getD 1 .top).toList).isSome) (br ((xkl c e d a b).isSome) (κl ((xkq c e d a b).fst,i64.wrap (a+1),(xkq c e d a b).snd)) δ) δ) δ) δ) (κr (d,b))
def xbx (c:LA) (d:Int):(Nat×Int×LA)→Option ((Nat×Int×LA)⊕(Nat×LA)):=fun (b,e,a)=>xfR c d b e a none (fun s=>some (.inl s)) (fun p=>some (.inr p))
def xed (c:LA) (d:Int):(Nat×Int×LA)→LA×List Box:=fun (b,e,a)=>([AV.func 43 [],AV.osl 0 0 0 b,AV.list 2 c,AV.int .i64 d,AV.int .i64 e],[⟨0,3,42,a,false,true⟩])
def xdz (a:LA) (b:Int):(Nat×LA)→LR:=fun p=>(.leaf (.exit 0) [AV.osl 0 0 0 p.1] [⟨0,3,42,p.2,false,true⟩])
abbrev xvT (a:LA) (H:List Box):=XR Tryz.prog xfk [1,5,11,12,13] [5] [(5,3,42)] (loopAt Tryz.f42 0) a H
theorem xv6 (a:LA) (b:Int) (s:Nat×Int×LA):Enc (encR (xed a b) (xdz a b)) (xbx a b s) (xvT (xed a b s).1 (xed a b s).2):=by
 obtain ⟨d,e,c⟩:=s
 refine eV (xfR a b d e c none (fun s=>some (encR (xed a b) (xdz a b) (.inl s))) (fun p=>some (encR (xed a b) (xdz a b) (.inr p)))) (by kernel_rfl) ?_;unfold xbx xfR;repeat' first|exact eN|exact eS rfl|apply eB
def xoj:Lp:=lpOf [1,5,11,12,13] [5] [(5,3,42)] (pCons (pFunc 43 pNil) (pCons (pOsl 0 0 0) (pCons (pList 2 pAny) (pCons (pInt .i64) (pCons (pInt .i64) pNil))))) (pCons (pBox 0 3 42 false true pAny) pNil) fun (_,(b,(c,(d,(e,_))))) (a,_)=>((Iter (xbx c d) (b,e,a)).isSome,xdz c d ((Iter (xbx c d) (b,e,a)).getD (0,[])))
theorem xtW:LoopOk Tryz.prog (ITryz.at xfk.pin) xfk.nt (loopAt Tryz.f42 0) xoj:=xaY fun g h j i=>by
 obtain ⟨_,⟨d,⟨a,⟨b,⟨e,_⟩⟩⟩⟩⟩:=g
 obtain ⟨c,_⟩:=h
 obtain ⟨f,rfl⟩:=Prod.mk.inj i
 exact xaG mxTryz (inv0Ok Tryz.prog _) rfl xvi xsi (xed a b) (xdz a b) (fun p=>by simp only [xdz,LR.eval];first|(simp;done)|(repeat' split<;>simp)) (xv6 a b) (s:=(d,e,c)) (xab f)
def xgZ:Env:=EKP4.fn 38 0 (lsOf [42]) (lpsOf [(6,xkj),(3,xoj)])
theorem xu7:OrcOk Tryz.prog (ITryz.at 0) xgZ:=xAH.fn
theorem xtn:LoOk Tryz.prog (ITryz.at xgZ.pin) xgZ (Tryz.f42.body.getD .skip):=xaP (ls:=[loopAt Tryz.f42 0,loopAt Tryz.f42 1]) (by kernel_rfl) (lkC xtW (lkC xnN lkN))
def xl1 (l:LA):=Iter (xbx ((xfF l).getD []) (↑((xfF l).getD []).length:Int)) (0,0,[])
def xl3 (l:LA):=(xl1 l).getD (0,[])
def xl4 (l:LA):=(xl3 l).snd
def xlx (l:LA):=(xl3 l).fst
def xjD {T:Type} (l:LA) (δ:T) (κ:LA→T):T:=br ((xfF l).isSome) (br ((xl1 l).isSome) (br (decide (0+xlx l≤(xl4 l).length)&&true) (κ (List.take (xlx l) (List.drop 0 (xl4 l)))) δ) δ) δ
def xfH (l:LA):Option (LA):=xjD l none some
theorem xzg (l:LA):Enc (fun (p:LA)=>((AV.list 3 p):AV)) (xfH l) (XF Tryz.prog xgZ Tryz.f42 (Tryz.f42.body.getD .skip) [AV.list 3 l,AV.func (43:FuncId) []]):=by
 refine eV (xjD l none (fun (p:LA)=>some ((AV.list 3 p):AV))) (by kernel_rfl) ?_;unfold xfH xjD;repeat' first|exact eN|exact eS rfl|apply eB
def xsa:LA→Option (Bool×AV):=ocOf (sCons (sList 3 pAny) (sCons (sEq (pFunc (43:FuncId) pNil)) sNil)) fun (l,(_,_))=>((xfH l).isSome,(AV.list 3 ((xfH l).getD [])))
theorem xy3:OcOk Tryz.prog ITryz 42 (xsa):=xaN fun c f e=>by
 obtain ⟨l,⟨_,_⟩⟩:=c
 obtain ⟨a,b⟩:=Prod.mk.inj e
 refine xaH (p:=xgZ.pin) (xaL mxTryz (inv0Ok Tryz.prog _) rfl xu7 Tryz.func42 rfl (by kernel_rfl) xtn ((xzg _ _ (xab (d:=[]) a)).trans ?_))
 exact congrArg some b
def xIL:Env:=EKP4.with 42 xsa
theorem xFx:OrcOk Tryz.prog ITryz xIL:=xAH.with xy3
def xjE:Env:=xIL.fn 5 0 (lsOf []) (lpsOf [])
theorem xzf:OrcOk Tryz.prog (ITryz.at 0) xjE:=xFx.fn
theorem xw2:LoOk Tryz.prog (ITryz.at xjE.pin) xjE (Tryz.f14.body.getD .skip):=xaq (by kernel_rfl)
def xnC {T:Type} (l:LA) (δ:T) (κ:LA→T):T:=br ((xfH l).isSome) (κ ((xfH l).getD [])) δ
def xhv (l:LA):Option (LA):=xnC l none some
theorem xEL (l:LA):Enc (fun (p:LA)=>((AV.list 3 p):AV)) (xhv l) (XF Tryz.prog xjE Tryz.f14 (Tryz.f14.body.getD .skip) [AV.list 3 l]):=by
 refine eV (xnC l none (fun (p:LA)=>some ((AV.list 3 p):AV))) (by kernel_rfl) ?_;unfold xhv xnC;repeat' first|exact eN|exact eS rfl|apply eB
def xwe:LA→Option (Bool×AV):=ocOf (sCons (sList 3 pAny) sNil) fun (l,_)=>((xhv l).isSome,(AV.list 3 ((xhv l).getD [])))
theorem xFB:OcOk Tryz.prog ITryz 14 (xwe):=xaN fun c f e=>by
 obtain ⟨l,_⟩:=c
 obtain ⟨a,b⟩:=Prod.mk.inj e
 refine xaH (p:=xjE.pin) (xaL mxTryz (inv0Ok Tryz.prog _) rfl xzf Tryz.func14 rfl (by kernel_rfl) xw2 ((xEL _ _ (xab (d:=[]) a)).trans ?_))
 exact congrArg some b
def xM9:Env:=xIL.with 14 xwe
theorem xLu:OrcOk Tryz.prog ITryz xM9:=xFx.with xFB
def xvD {T:Type} (h:LA) (i j:Int) (e:LA) (f:Int) (a:Nat) (b:Int) (c d g:LA) (δ:T) (κl:(Nat×Int×LA×LA×LA)→T) (κr:(Nat×LA)→T):T:=br (decide (b<f)) (br (decide (0≤b)&&decide (b<e.length)) (br (decide (b.toNat<e.length)&&((e.getD b.toNat .top).cells.length==2&&hasShs [Sh.int .i64,Sh.int .i64] (e.getD b.toNat .top).cells 0)) (br (decide (d.length*32≤140737488355328)&&decide (d.length≤4611686018427387904)) (br (decide (0+d.length≤d.length)&&true&&true&&true&&true) (br (a==c.length&&(decide ((a+1)*40≤140737488355328)&&decide (a+1≤4611686018427387904))) (κl (a+1,i64.wrap (b+1),c++[AV.agg [AV.list 3 (List.take d.length (List.drop 0 d)),AV.int .i64 ((e.getD b.toNat .top).cells.getD 0 .top).toInt,AV.int .i64 ((e.getD b.toNat .top).cells.getD 1 .top).toInt]],d,g)) δ) δ) δ) δ) δ) (κr (a,c))
def xmj (c:LA) (d e:Int) (f:LA) (g:Int):(Nat×Int×LA×LA×LA)→Option ((Nat×Int×LA×LA×LA)⊕(Nat×LA)):=fun (b,h,a,i,j)=>xvD c d e f g b h a i j none (fun s=>some (.inl s)) (fun p=>some (.inr p))
def xkr (a:LA) (e:Int) (d:Nat) (b:Int) (c:LA):=Iter (xmj a e b ((xAE ((a.getD b.toNat .top).cells.getD 1 .top).toList).getD []) (↑((xAE ((a.getD b.toNat .top).cells.getD 1 .top).toList).getD []).length:Int)) (d,0,c,((a.getD b.toNat .top).cells.getD 0 .top).toList,((a.getD b.toNat .top).cells.getD 1 .top).toList)
def xkp (c:LA) (d:Int) (b:Nat) (e:Int) (a:LA):=(xkr c d b e a).getD (0,[])
def xlf {T:Type} (c:LA) (e:Int) (d:Nat) (a:Int) (b:LA) (δ:T) (κl:(Nat×Int×LA)→T) (κr:(Nat×LA)→T):T:=br (decide (a<e)) (br (decide (0≤a)&&decide (a<c.length)) (br (decide (a.toNat<c.length)&&((c.getD a.toNat .top).cells.length==2&&hasShs [Sh.list 3,Sh.list 2] (c.getD a.toNat .top).cells 0)) (br ((xAE ((c.getD a.toNat .top).cells.getD 1 .top).toList).isSome) (br ((xkr c e d a b).isSome) (κl ((xkp c e d a b).fst,i64.wrap (a+1),(xkp c e d a b).snd)) δ) δ) δ) δ) (κr (d,b))
def xiO (c:LA) (d:Int):(Nat×Int×LA)→Option ((Nat×Int×LA)⊕(Nat×LA)):=fun (b,e,a)=>xlf c d b e a none (fun s=>some (.inl s)) (fun p=>some (.inr p))
abbrev xMZ:Env:=xM9
theorem xMM:OrcOk Tryz.prog ITryz xMZ:=xLu
abbrev xLp:Env:=xMZ
theorem xMT:OrcOk Tryz.prog ITryz xLp:=xMM
abbrev EKP5:Env:=xLp
theorem xPs:OrcOk Tryz.prog ITryz EKP5:=xMT
end Go.Sim.M
end
noncomputable section
set_option maxRecDepth 100000
namespace Go.Sim.M
open Go.IntKind (i64 u64 u8)
open Go.RowKit Go.Proofs
abbrev xOy:Env:=EKP5
theorem xNJ:OrcOk Tryz.prog ITryz xOy:=xPs
abbrev xOQ:Env:=xOy
theorem xNA:OrcOk Tryz.prog ITryz xOQ:=xNJ
abbrev xOZ:Env:=xOQ
theorem xNm:OrcOk Tryz.prog ITryz xOZ:=xNA
abbrev xOB:Env:=xOZ
theorem xNo:OrcOk Tryz.prog ITryz xOB:=xNm
abbrev xOL:Env:=xOB
theorem xNW:OrcOk Tryz.prog ITryz xOL:=xNo
abbrev xOx:Env:=xOL
theorem xN9:OrcOk Tryz.prog ITryz xOx:=xNW
abbrev xOC:Env:=xOx
theorem xN0:OrcOk Tryz.prog ITryz xOC:=xN9
abbrev xOX:Env:=xOC
theorem xN6:OrcOk Tryz.prog ITryz xOX:=xN0
abbrev EKV:Env:=xOX
theorem xP3:OrcOk Tryz.prog ITryz EKV:=xN6
end Go.Sim.M
end
noncomputable section
set_option maxRecDepth 100000
namespace Go.Sim.M
open Go.IntKind (i64 u64 u8)
open Go.RowKit Go.Proofs
abbrev xOE:Env:=EKV
theorem xNt:OrcOk Tryz.prog ITryz xOE:=xP3
abbrev xKm:Env:=xOE
theorem xHE:OrcOk Tryz.prog ITryz xKm:=xNt
def xfT:Env:=xKm.fn 25 0 (lsOf []) (lpsOf [])
theorem xwh:OrcOk Tryz.prog (ITryz.at 0) xfT:=xHE.fn
theorem xtT:LoOk Tryz.prog (ITryz.at xfT.pin) xfT (Tryz.f85.body.getD .skip):=xaq (by kernel_rfl)
def xga (a b c d:Int):Bool:=(br (xdm a b) (br (xdm c d) (br (decide (a<d)) ((decide (c<b))) ((false))) ((false))) ((false)))
def xqV (a b c d:Int):Bool:=true
def xsC {T:Type} (a b c d:Int) (δ:T) (κ:Bool→T):T:=br (xdm a b) (br (xdm c d) (br (decide (a<d)) (κ (decide (c<b))) (κ (false))) (κ (false))) (κ (false))
theorem xBh (a b c d:Int):Pre (xqV a b c d) (XF Tryz.prog xfT Tryz.f85 (Tryz.f85.body.getD .skip) [AV.agg [AV.int .i64 a,AV.int .i64 b],AV.agg [AV.int .i64 c,AV.int .i64 d]]) (AV.bool (xga a b c d)):=by
 have h:XF Tryz.prog xfT Tryz.f85 (Tryz.f85.body.getD .skip) [AV.agg [AV.int .i64 a,AV.int .i64 b],AV.agg [AV.int .i64 c,AV.int .i64 d]]=xsC a b c d none (fun (p:Bool)=>some ((AV.bool p):AV)):=by kernel_rfl
 rw [h];unfold xga xqV xsC;repeat' (first|exact Pre.none|exact Pre.tt rfl|exact Pre.some rfl|refine Pre.l ?_|refine Pre.r ?_|refine Pre.br (f:=fun (p:Bool)=>((AV.bool p):AV)) ?_ ?_|refine Pre.brt (f:=fun (p:Bool)=>((AV.bool p):AV)) ?_ ?_)
def xsG:LA→Option (Bool×AV):=ocOf (sCons (sAgg (sCons (sEq (pInt .i64)) (sCons (sEq (pInt .i64)) sNil))) (sCons (sAgg (sCons (sEq (pInt .i64)) (sCons (sEq (pInt .i64)) sNil))) sNil)) fun ((a,(b,_)),((c,(d,_)),_))=>(true,(AV.bool (xga a b c d)))
theorem xA4:OcOk Tryz.prog ITryz 85 (xsG):=xaN fun b i c=>by
 obtain ⟨⟨d,⟨e,_⟩⟩,⟨⟨f,⟨g,_⟩⟩,_⟩⟩:=b
 obtain ⟨h,a⟩:=Prod.mk.inj c
 refine xaH (p:=xfT.pin) (xaL mxTryz (inv0Ok Tryz.prog _) rfl xwh Tryz.func85 rfl (by kernel_rfl) xtT ((Pre.get (xBh _ _ _ _) rfl).trans ?_))
 exact congrArg some a
def xK1:Env:=xKm.with 85 xsG
theorem xHQ:OrcOk Tryz.prog ITryz xK1:=xHE.with xA4
def xe7:Env:=xK1.fn 22 0 (lsOf []) (lpsOf [])
theorem xuH:OrcOk Tryz.prog (ITryz.at 0) xe7:=xHQ.fn
theorem xs7:LoOk Tryz.prog (ITryz.at xe7.pin) xe7 (Tryz.f58.body.getD .skip):=xaq (by kernel_rfl)
def xbJ (a b c d:Int):Int×Int×Bool:=(br (!xga a b c d) ((0,0,false)) ((if c>a then c else a,if d<b then d else b,true)))
def xpY (a b c d:Int):Bool:=true
def xr8 {T:Type} (a b c d:Int) (δ:T) (κ:Int×Int×Bool→T):T:=br (!xga a b c d) (κ (0,0,false)) (κ (if c>a then c else a,if d<b then d else b,true))
theorem xAt (a b c d:Int):Pre (xpY a b c d) (XF Tryz.prog xe7 Tryz.f58 (Tryz.f58.body.getD .skip) [AV.agg [AV.int .i64 a,AV.int .i64 b],AV.agg [AV.int .i64 c,AV.int .i64 d]]) (AV.tuple [AV.agg [AV.int .i64 (xbJ a b c d).1,AV.int .i64 (xbJ a b c d).2.1],AV.bool (xbJ a b c d).2.2]):=by
 have h:XF Tryz.prog xe7 Tryz.f58 (Tryz.f58.body.getD .skip) [AV.agg [AV.int .i64 a,AV.int .i64 b],AV.agg [AV.int .i64 c,AV.int .i64 d]]=xr8 a b c d none (fun (p:Int×Int×Bool)=>some ((AV.tuple [AV.agg [AV.int .i64 p.1,AV.int .i64 p.2.1],AV.bool p.2.2]):AV)):=by kernel_rfl
 rw [h];unfold xbJ xpY xr8;repeat' (first|exact Pre.none|exact Pre.tt rfl|exact Pre.some rfl|refine Pre.l ?_|refine Pre.r ?_|refine Pre.br (f:=fun (p:Int×Int×Bool)=>((AV.tuple [AV.agg [AV.int .i64 p.1,AV.int .i64 p.2.1],AV.bool p.2.2]):AV)) ?_ ?_|refine Pre.brt (f:=fun (p:Int×Int×Bool)=>((AV.tuple [AV.agg [AV.int .i64 p.1,AV.int .i64 p.2.1],AV.bool p.2.2]):AV)) ?_ ?_)
def xr9:LA→Option (Bool×AV):=ocOf (sCons (sAgg (sCons (sEq (pInt .i64)) (sCons (sEq (pInt .i64)) sNil))) (sCons (sAgg (sCons (sEq (pInt .i64)) (sCons (sEq (pInt .i64)) sNil))) sNil)) fun ((a,(b,_)),((c,(d,_)),_))=>(true,(AV.tuple [AV.agg [AV.int .i64 (xbJ a b c d).1,AV.int .i64 (xbJ a b c d).2.1],AV.bool (xbJ a b c d).2.2]))
theorem xAm:OcOk Tryz.prog ITryz 58 (xr9):=xaN fun b i c=>by
 obtain ⟨⟨d,⟨e,_⟩⟩,⟨⟨f,⟨g,_⟩⟩,_⟩⟩:=b
 obtain ⟨h,a⟩:=Prod.mk.inj c
 refine xaH (p:=xe7.pin) (xaL mxTryz (inv0Ok Tryz.prog _) rfl xuH Tryz.func58 rfl (by kernel_rfl) xs7 ((Pre.get (xAt _ _ _ _) rfl).trans ?_))
 exact congrArg some a
def xHe:Env:=xK1.with 58 xr9
theorem xCu:OrcOk Tryz.prog ITryz xHe:=xHQ.with xAm
def xeM:Env:=xHe.fn 34 0 (lsOf []) (lpsOf [])
theorem xtP:OrcOk Tryz.prog (ITryz.at 0) xeM:=xCu.fn
theorem xrD:LoOk Tryz.prog (ITryz.at xeM.pin) xeM (loopAt Tryz.f23 0):=xaq (by kernel_rfl)
def xfA {T:Type} (b:LA) (g:Int) (c:Nat) (a e f:Int) (d:LA) (δ:T) (κl:(Nat×Int×Int×Int×LA)→T) (κr:(Nat×LA)→T):T:=br (decide (a<g)) (br (decide (0≤a)&&decide (a<b.length)) (br (decide (a.toNat<b.length)&&((b.getD a.toNat .top).cells.length==3&&hasShs [Sh.list 3,Sh.int .i64,Sh.int .i64] (b.getD a.toNat .top).cells 0)) (br ((xbJ ((b.getD a.toNat .top).cells.getD 1 .top).toInt ((b.getD a.toNat .top).cells.getD 2 .top).toInt e f).snd.snd) (br (c==d.length&&(decide ((c+1)*40≤140737488355328)&&decide (c+1≤4611686018427387904))) (κl (c+1,i64.wrap (a+1),e,f,d++[AV.agg [AV.list 3 ((b.getD a.toNat .top).cells.getD 0 .top).toList,AV.int .i64 (xbJ ((b.getD a.toNat .top).cells.getD 1 .top).toInt ((b.getD a.toNat .top).cells.getD 2 .top).toInt e f).fst,AV.int .i64 (xbJ ((b.getD a.toNat .top).cells.getD 1 .top).toInt ((b.getD a.toNat .top).cells.getD 2 .top).toInt e f).snd.fst]])) δ) (κl (c,i64.wrap (a+1),e,f,d))) δ) δ) (κr (c,d))
def xbo (e:LA) (f:Int):(Nat×Int×Int×Int×LA)→Option ((Nat×Int×Int×Int×LA)⊕(Nat×LA)):=fun (b,g,c,d,a)=>xfA e f b g c d a none (fun s=>some (.inl s)) (fun p=>some (.inr p))
def xdV (e:LA) (f:Int):(Nat×Int×Int×Int×LA)→LA×List Box:=fun (b,g,c,d,a)=>([AV.own 0 0 0 0,AV.osl 1 0 0 b,AV.list 3 e,AV.int .i64 f,AV.int .i64 g],[⟨0,2,31,[AV.agg [AV.int .i64 c,AV.int .i64 d]],false,true⟩,⟨0,3,42,a,false,true⟩])
def xdp (a:LA) (b:Int):(Nat×LA)→LR:=fun p=>(.leaf (.exit 0) [AV.osl 0 0 0 p.1] [⟨0,3,42,p.2,false,true⟩])
abbrev xu1 (a:LA) (H:List Box):=XR Tryz.prog xeM [3,5,10,11,12] [5] [(5,3,42)] (loopAt Tryz.f23 0) a H
theorem xu8 (a:LA) (b:Int) (s:Nat×Int×Int×Int×LA):Enc (encR (xdV a b) (xdp a b)) (xbo a b s) (xu1 (xdV a b s).1 (xdV a b s).2):=by
 obtain ⟨d,g,e,f,c⟩:=s
 refine eV (xfA a b d g e f c none (fun s=>some (encR (xdV a b) (xdp a b) (.inl s))) (fun p=>some (encR (xdV a b) (xdp a b) (.inr p)))) (by kernel_rfl) ?_;unfold xbo xfA;repeat' first|exact eN|exact eS rfl|apply eB
def xnO:Lp:=lpOf [3,5,10,11,12] [5] [(5,3,42)] (pCons (pOwn 0 0 0 0) (pCons (pOsl 1 0 0) (pCons (pList 3 pAny) (pCons (pInt .i64) (pCons (pInt .i64) pNil))))) (pCons (pBox 0 2 31 false true (pCons (pAgg (pCons (pInt .i64) (pCons (pInt .i64) pNil))) pNil)) (pCons (pBox 0 3 42 false true pAny) pNil)) fun (_,(b,(c,(d,(g,_))))) (((e,(f,_)),_),(a,_))=>((Iter (xbo c d) (b,g,e,f,a)).isSome,xdp c d ((Iter (xbo c d) (b,g,e,f,a)).getD (0,[])))
theorem xs9:LoopOk Tryz.prog (ITryz.at xeM.pin) xeM.nt (loopAt Tryz.f23 0) xnO:=xaY fun i j l k=>by
 obtain ⟨_,⟨d,⟨a,⟨b,⟨g,_⟩⟩⟩⟩⟩:=i
 obtain ⟨⟨⟨e,⟨f,_⟩⟩,_⟩,⟨c,_⟩⟩:=j
 obtain ⟨h,rfl⟩:=Prod.mk.inj k
 exact xaG mxTryz (inv0Ok Tryz.prog _) rfl xtP xrD (xdV a b) (xdp a b) (fun p=>by simp only [xdp,LR.eval];first|(simp;done)|(repeat' split<;>simp)) (xu8 a b) (s:=(d,g,e,f,c)) (xab h)
def xf9:Env:=xHe.fn 34 0 (lsOf []) (lpsOf [(3,xnO)])
theorem xt1:OrcOk Tryz.prog (ITryz.at 0) xf9:=xCu.fn
theorem xsL:LoOk Tryz.prog (ITryz.at xf9.pin) xf9 (Tryz.f23.body.getD .skip):=xaP (ls:=[loopAt Tryz.f23 0]) (by kernel_rfl) (lkC xs9 lkN)
def xlp (l:LA) (a b:Int):=Iter (xbo l (↑l.length:Int)) (0,0,a,b,[])
def xlv (l:LA) (a b:Int):=(xlp l a b).getD (0,[])
def xlo (l:LA) (a b:Int):=(xlv l a b).snd
def xlz (l:LA) (a b:Int):=(xlv l a b).fst
def xlu (l:LA) (a b:Int):=xhv (List.take (xlz l a b) (List.drop 0 (xlo l a b)))
def xi7 {T:Type} (l:LA) (a b:Int) (δ:T) (κ:LA→T):T:=br ((xlp l a b).isSome) (br (decide (0+xlz l a b≤(xlo l a b).length)&&true) (br ((xlu l a b).isSome) (κ ((xlu l a b).getD [])) δ) δ) δ
def xdj (l:LA) (a b:Int):Option (LA):=xi7 l a b none some
theorem xyr (l:LA) (a b:Int):Enc (fun (p:LA)=>((AV.list 3 p):AV)) (xdj l a b) (XF Tryz.prog xf9 Tryz.f23 (Tryz.f23.body.getD .skip) [AV.list 3 l,AV.agg [AV.int .i64 a,AV.int .i64 b]]):=by
 refine eV (xi7 l a b none (fun (p:LA)=>some ((AV.list 3 p):AV))) (by kernel_rfl) ?_;unfold xdj xi7;repeat' first|exact eN|exact eS rfl|apply eB
def xq2:LA→Option (Bool×AV):=ocOf (sCons (sList 3 pAny) (sCons (sAgg (sCons (sEq (pInt .i64)) (sCons (sEq (pInt .i64)) sNil))) sNil)) fun (l,((a,(b,_)),_))=>((xdj l a b).isSome,(AV.list 3 ((xdj l a b).getD [])))
theorem xyA:OcOk Tryz.prog ITryz 23 (xq2):=xaN fun c h e=>by
 obtain ⟨l,⟨⟨f,⟨g,_⟩⟩,_⟩⟩:=c
 obtain ⟨a,b⟩:=Prod.mk.inj e
 refine xaH (p:=xf9.pin) (xaL mxTryz (inv0Ok Tryz.prog _) rfl xt1 Tryz.func23 rfl (by kernel_rfl) xsL ((xyr _ _ _ _ (xab (d:=[]) a)).trans ?_))
 exact congrArg some b
def xOD:Env:=xHe.with 23 xq2
theorem xN7:OrcOk Tryz.prog ITryz xOD:=xCu.with xyA
abbrev xOz:Env:=xOD
theorem xOo:OrcOk Tryz.prog ITryz xOz:=xN7
abbrev xOT:Env:=xOz
theorem xOj:OrcOk Tryz.prog ITryz xOT:=xOo
abbrev xOU:Env:=xOT
theorem xOa:OrcOk Tryz.prog ITryz xOU:=xOj
abbrev xOO:Env:=xOU
theorem xN3:OrcOk Tryz.prog ITryz xOO:=xOa
abbrev xLm:Env:=xOO
theorem xL8:OrcOk Tryz.prog ITryz xLm:=xN3
abbrev xLJ:Env:=xLm
theorem xMm:OrcOk Tryz.prog ITryz xLJ:=xL8
abbrev xMt:Env:=xLJ
theorem xMA:OrcOk Tryz.prog ITryz xMt:=xMm
abbrev xMI:Env:=xMt
theorem xLM:OrcOk Tryz.prog ITryz xMI:=xMA
abbrev xM8:Env:=xMI
theorem xMf:OrcOk Tryz.prog ITryz xM8:=xLM
abbrev EKQ:Env:=xM8
theorem xMv:OrcOk Tryz.prog ITryz EKQ:=xMf
end Go.Sim.M
end
noncomputable section
set_option maxRecDepth 100000
namespace Go.Sim.M
open Go.IntKind (i64 u64 u8)
open Go.RowKit Go.Proofs
def xju:Env:=EKQ.fn 7 0 (lsOf []) (lpsOf [])
theorem xCv:OrcOk Tryz.prog (ITryz.at 0) xju:=xMv.fn
theorem xAr:LoOk Tryz.prog (ITryz.at xju.pin) xju (Tryz.f89.body.getD .skip):=xaq (by kernel_rfl)
def xhm (b a:Bool):Int:=(br (b) (((-1))) (br (a) ((1)) ((0))))
def xvu (b a:Bool):Bool:=true
def xz8 {T:Type} (b a:Bool) (δ:T) (κ:Int→T):T:=br (b) (κ ((-1))) (br (a) (κ (1)) (κ (0)))
theorem xHF (b a:Bool):Pre (xvu b a) (XF Tryz.prog xju Tryz.f89 (Tryz.f89.body.getD .skip) [AV.bool b,AV.bool a]) (AV.int .i64 (xhm b a)):=by
 have h:XF Tryz.prog xju Tryz.f89 (Tryz.f89.body.getD .skip) [AV.bool b,AV.bool a]=xz8 b a none (fun (p:Int)=>some ((AV.int .i64 p):AV)):=by kernel_rfl
 rw [h];unfold xhm xvu xz8;repeat' (first|exact Pre.none|exact Pre.tt rfl|exact Pre.some rfl|refine Pre.l ?_|refine Pre.r ?_|refine Pre.br (f:=fun (p:Int)=>((AV.int .i64 p):AV)) ?_ ?_|refine Pre.brt (f:=fun (p:Int)=>((AV.int .i64 p):AV)) ?_ ?_)
def xAa:LA→Option (Bool×AV):=ocOf (sCons (sEq pBool) (sCons (sEq pBool) sNil)) fun (b,(a,_))=>(true,(AV.int .i64 (xhm b a)))
theorem xHY:OcOk Tryz.prog ITryz 89 (xAa):=xaN fun c g d=>by
 obtain ⟨e,⟨a,_⟩⟩:=c
 obtain ⟨f,b⟩:=Prod.mk.inj d
 refine xaH (p:=xju.pin) (xaL mxTryz (inv0Ok Tryz.prog _) rfl xCv Tryz.func89 rfl (by kernel_rfl) xAr ((Pre.get (xHF _ _) rfl).trans ?_))
 exact congrArg some b
def xId:Env:=EKQ.with 89 xAa
theorem xF1:OrcOk Tryz.prog ITryz xId:=xMv.with xHY
def xg9:Env:=xId.fn 48 0 (lsOf []) (lpsOf [])
theorem xyv:OrcOk Tryz.prog (ITryz.at 0) xg9:=xF1.fn
theorem xv5:LoOk Tryz.prog (ITryz.at xg9.pin) xg9 (Tryz.f64.body.getD .skip):=xaq (by kernel_rfl)
def xgK (a b:Int) (c:List UInt8) (d e:Int) (f:List UInt8):Int:=(br (a != d) ((xhm (decide (a<d)) (decide (a>d)))) (br (b != e) ((xhm (decide (b<e)) (decide (b>e)))) ((xhm (Op.bytesLess c f) !(Op.bytesLess c f || c==f)))))
def xsy (a b:Int) (c:List UInt8) (d e:Int) (f:List UInt8):Bool:=true
def xut {T:Type} (a b:Int) (c:List UInt8) (d e:Int) (f:List UInt8) (δ:T) (κ:Int→T):T:=br (a != d) (κ (xhm (decide (a<d)) (decide (a>d)))) (br (b != e) (κ (xhm (decide (b<e)) (decide (b>e)))) (κ (xhm (Op.bytesLess c f) !(Op.bytesLess c f || c==f))))
theorem xDY (a b:Int) (c:List UInt8) (d e:Int) (g:List UInt8):Pre (xsy a b c d e g) (XF Tryz.prog xg9 Tryz.f64 (Tryz.f64.body.getD .skip) [AV.agg [AV.int .i64 a,AV.int .i64 b,AV.str c],AV.agg [AV.int .i64 d,AV.int .i64 e,AV.str g]]) (AV.int .i64 (xgK a b c d e g)):=by
 have h:XF Tryz.prog xg9 Tryz.f64 (Tryz.f64.body.getD .skip) [AV.agg [AV.int .i64 a,AV.int .i64 b,AV.str c],AV.agg [AV.int .i64 d,AV.int .i64 e,AV.str g]]=xut a b c d e g none (fun (p:Int)=>some ((AV.int .i64 p):AV)):=by kernel_rfl
 rw [h];unfold xgK xsy xut;repeat' (first|exact Pre.none|exact Pre.tt rfl|exact Pre.some rfl|refine Pre.l ?_|refine Pre.r ?_|refine Pre.br (f:=fun (p:Int)=>((AV.int .i64 p):AV)) ?_ ?_|refine Pre.brt (f:=fun (p:Int)=>((AV.int .i64 p):AV)) ?_ ?_)
def xuC:LA→Option (Bool×AV):=ocOf (sCons (sAgg (sCons (sEq (pInt .i64)) (sCons (sEq (pInt .i64)) (sCons (sEq pStr) sNil)))) (sCons (sAgg (sCons (sEq (pInt .i64)) (sCons (sEq (pInt .i64)) (sCons (sEq pStr) sNil)))) sNil)) fun ((a,(b,(c,_))),((d,(e,(f,_))),_))=>(true,(AV.int .i64 (xgK a b c d e f)))
theorem xDl:OcOk Tryz.prog ITryz 64 (xuC):=xaN fun b k c=>by
 obtain ⟨⟨d,⟨e,⟨f,_⟩⟩⟩,⟨⟨g,⟨h,⟨i,_⟩⟩⟩,_⟩⟩:=b
 obtain ⟨j,a⟩:=Prod.mk.inj c
 refine xaH (p:=xg9.pin) (xaL mxTryz (inv0Ok Tryz.prog _) rfl xyv Tryz.func64 rfl (by kernel_rfl) xv5 ((Pre.get (xDY _ _ _ _ _ _) rfl).trans ?_))
 exact congrArg some a
def xDx:Env:=xId.with 64 xuC
theorem xzZ:OrcOk Tryz.prog ITryz xDx:=xF1.with xDl
def xhd:Env:=xDx.fn 41 0 (lsOf []) (lpsOf [])
theorem xyY:OrcOk Tryz.prog (ITryz.at 0) xhd:=xzZ.fn
theorem xtR:LoOk Tryz.prog (ITryz.at xhd.pin) xhd (loopAt Tryz.f30 0):=xaq (by kernel_rfl)
def xfr (a b:LA) (i:Int):=xgK ((a.getD i.toNat .top).cells.getD 0 .top).toInt ((a.getD i.toNat .top).cells.getD 1 .top).toInt ((a.getD i.toNat .top).cells.getD 2 .top).toStr ((b.getD i.toNat .top).cells.getD 0 .top).toInt ((b.getD i.toNat .top).cells.getD 1 .top).toInt ((b.getD i.toNat .top).cells.getD 2 .top).toStr
def xeo {T:Type} (a b:LA) (i:Int) (δ:T) (κl:(Int)→T) (κr:(Bool×(Int)×(Unit))→T):T:=br (decide (i<a.length)) (br (decide (i<b.length)) (br (decide (0≤i)&&decide (i<a.length)) (br (decide (i.toNat<a.length)&&((a.getD i.toNat .top).cells.length==3&&hasShs [Sh.int .i64,Sh.int .i64,Sh.str] (a.getD i.toNat .top).cells 0)) (br (decide (0≤i)&&decide (i<b.length)) (br (decide (i.toNat<b.length)&&((b.getD i.toNat .top).cells.length==3&&hasShs [Sh.int .i64,Sh.int .i64,Sh.str] (b.getD i.toNat .top).cells 0)) (br (xfr a b i != 0) (κr (true,(xfr a b i),())) (κl (i64.wrap (i+1)))) δ) δ) δ) δ) (κr (false,0,()))) (κr (false,0,()))
def xa6 (a b:LA):(Int)→Option ((Int)⊕(Bool×(Int)×(Unit))):=fun (i)=>xeo a b i none (fun s=>some (.inl s)) (fun p=>some (.inr p))
def xfW (a b:LA):(Int)→LA×List Box:=fun (i)=>([AV.list 3 a,AV.list 3 b,AV.int .i64 i],[])
def xeD (a b:LA):(Bool×(Int)×(Unit))→LR:=fun p=>(.node p.1 (.leaf .ret [AV.list 3 a,AV.list 3 b,AV.int .i64 p.2.1] []) (.leaf (.exit 0) [AV.list 3 a,AV.list 3 b,.top] []))
abbrev xz5 (a:LA) (H:List Box):=XR Tryz.prog xhd [0,1,5] [0,1,4] [] (loopAt Tryz.f30 0) a H
theorem xzJ (a b:LA) (i:Int):Enc (encR (xfW a b) (xeD a b)) (xa6 a b i) (xz5 (xfW a b i).1 (xfW a b i).2):=by
 refine eV (xeo a b i none (fun s=>some (encR (xfW a b) (xeD a b) (.inl s))) (fun p=>some (encR (xfW a b) (xeD a b) (.inr p)))) (by kernel_rfl) ?_;unfold xa6 xeo;repeat' first|exact eN|exact eS rfl|apply eB
def xqZ:Lp:=lpOf [0,1,5] [0,1,4] [] (pCons (pList 3 pAny) (pCons (pList 3 pAny) (pCons (pInt .i64) pNil))) pNil fun (a,(b,(i,_))) _=>((Iter (xa6 a b) (i)).isSome,xeD a b ((Iter (xa6 a b) (i)).getD (false,0,())))
theorem xwm:LoopOk Tryz.prog (ITryz.at xhd.pin) xhd.nt (loopAt Tryz.f30 0) xqZ:=xaY fun d f g e=>by
 obtain ⟨a,⟨b,⟨i,_⟩⟩⟩:=d
 obtain ⟨c,rfl⟩:=Prod.mk.inj e
 exact xaG mxTryz (inv0Ok Tryz.prog _) rfl xyY xtR (xfW a b) (xeD a b) (fun p=>by simp only [xeD,LR.eval];first|(simp;done)|(repeat' split<;>simp)) (xzJ a b) (s:=(i)) (xab c)
def xiP:Env:=xDx.fn 41 0 (lsOf []) (lpsOf [(2,xqZ)])
theorem xyD:OrcOk Tryz.prog (ITryz.at 0) xiP:=xzZ.fn
theorem xv7:LoOk Tryz.prog (ITryz.at xiP.pin) xiP (Tryz.f30.body.getD .skip):=xaP (ls:=[loopAt Tryz.f30 0]) (by kernel_rfl) (lkC xwm lkN)
def xl9 {T:Type} (a b:LA) (δ:T) (κ:Int→T):T:=br ((Iter (xa6 a b) 0).isSome) (br (((Iter (xa6 a b) 0).getD (false,0,())).fst) (κ (((Iter (xa6 a b) 0).getD (false,0,())).snd.fst)) (br (decide ((↑a.length:Int)<(↑b.length:Int))) (κ ((-1))) (br (decide ((↑a.length:Int)>(↑b.length:Int))) (κ (1)) (κ (0))))) δ
def xbe (a b:LA):Option (Int):=xl9 a b none some
theorem xED (a b:LA):Enc (fun (p:Int)=>((AV.int .i64 p):AV)) (xbe a b) (XF Tryz.prog xiP Tryz.f30 (Tryz.f30.body.getD .skip) [AV.list 3 a,AV.list 3 b]):=by
 refine eV (xl9 a b none (fun (p:Int)=>some ((AV.int .i64 p):AV))) (by kernel_rfl) ?_;unfold xbe xl9;repeat' first|exact eN|exact eS rfl|apply eB
def xt9:LA→Option (Bool×AV):=ocOf (sCons (sList 3 pAny) (sCons (sList 3 pAny) sNil)) fun (a,(b,_))=>((xbe a b).isSome,(AV.int .i64 ((xbe a b).getD 0)))
theorem xEs:OcOk Tryz.prog ITryz 30 (xt9):=xaN fun f h g=>by
 obtain ⟨a,⟨b,_⟩⟩:=f
 obtain ⟨c,e⟩:=Prod.mk.inj g
 refine xaH (p:=xiP.pin) (xaL mxTryz (inv0Ok Tryz.prog _) rfl xyD Tryz.func30 rfl (by kernel_rfl) xv7 ((xED _ _ _ (xab (d:=0) c)).trans ?_))
 exact congrArg some e
def xHL:Env:=xDx.with 30 xt9
theorem xGB:OrcOk Tryz.prog ITryz xHL:=xzZ.with xEs
def xkx:Env:=xHL.fn 9 0 (lsOf []) (lpsOf [])
theorem xA7:OrcOk Tryz.prog (ITryz.at 0) xkx:=xGB.fn
theorem xyP:LoOk Tryz.prog (ITryz.at xkx.pin) xkx (Tryz.f61.body.getD .skip):=xaq (by kernel_rfl)
def xoE {T:Type} (a b:LA) (δ:T) (κ:Bool→T):T:=br ((xbe a b).isSome) (κ ((xbe a b).getD 0==0)) δ
def xko (a b:LA):Option (Bool):=xoE a b none some
theorem xG5 (a b:LA):Enc (fun (p:Bool)=>((AV.bool p):AV)) (xko a b) (XF Tryz.prog xkx Tryz.f61 (Tryz.f61.body.getD .skip) [AV.list 3 a,AV.list 3 b]):=by
 refine eV (xoE a b none (fun (p:Bool)=>some ((AV.bool p):AV))) (by kernel_rfl) ?_;unfold xko xoE;repeat' first|exact eN|exact eS rfl|apply eB
def xya:LA→Option (Bool×AV):=ocOf (sCons (sList 3 pAny) (sCons (sList 3 pAny) sNil)) fun (a,(b,_))=>((xko a b).isSome,(AV.bool ((xko a b).getD false)))
theorem xGX:OcOk Tryz.prog ITryz 61 (xya):=xaN fun f h g=>by
 obtain ⟨a,⟨b,_⟩⟩:=f
 obtain ⟨c,e⟩:=Prod.mk.inj g
 refine xaH (p:=xkx.pin) (xaL mxTryz (inv0Ok Tryz.prog _) rfl xA7 Tryz.func61 rfl (by kernel_rfl) xyP ((xG5 _ _ _ (xab (d:=false) c)).trans ?_))
 exact congrArg some e
def xDa:Env:=xHL.with 61 xya
theorem xzv:OrcOk Tryz.prog ITryz xDa:=xGB.with xGX
def xfL:Env:=xDa.fn 42 0 (lsOf []) (lpsOf [])
theorem xvN:OrcOk Tryz.prog (ITryz.at 0) xfL:=xzv.fn
theorem xsO:LoOk Tryz.prog (ITryz.at xfL.pin) xfL (loopAt Tryz.f13 0):=xaq (by kernel_rfl)
def xgb {T:Type} (a b:LA) (i:Int) (δ:T) (κl:(Int)→T) (κr:(Bool×(Bool)×(Unit))→T):T:=br (decide (i<a.length)) (br (decide (0≤i)&&decide (i<a.length)) (br (decide (i.toNat<a.length)&&((a.getD i.toNat .top).cells.length==3&&hasShs [Sh.int .i64,Sh.int .i64] (a.getD i.toNat .top).cells 1)) (br (decide (0≤i)&&decide (i<b.length)) (br (decide (i.toNat<b.length)&&((b.getD i.toNat .top).cells.length==3&&hasShs [Sh.int .i64,Sh.int .i64] (b.getD i.toNat .top).cells 1)) (br (!(((a.getD i.toNat .top).cells.getD 1 .top).toInt==((b.getD i.toNat .top).cells.getD 1 .top).toInt&&(((a.getD i.toNat .top).cells.getD 2 .top).toInt==((b.getD i.toNat .top).cells.getD 2 .top).toInt&&true))) (κr (true,(false),())) (br (decide (0≤i)&&decide (i<a.length)) (br (decide (i.toNat<a.length)&&hasSh1 (Sh.list 3) ((a.getD i.toNat .top).cells.getD 0 .top)) (br (decide (0≤i)&&decide (i<b.length)) (br (decide (i.toNat<b.length)&&hasSh1 (Sh.list 3) ((b.getD i.toNat .top).cells.getD 0 .top)) (br ((xbe ((a.getD i.toNat .top).cells.getD 0 .top).toList ((b.getD i.toNat .top).cells.getD 0 .top).toList).isSome) (br ((xbe ((a.getD i.toNat .top).cells.getD 0 .top).toList ((b.getD i.toNat .top).cells.getD 0 .top).toList).getD 0 != 0) (κr (true,(false),())) (κl (i64.wrap (i+1)))) δ) δ) δ) δ) δ)) δ) δ) δ) δ) (κr (false,false,()))
def xbj (a b:LA):(Int)→Option ((Int)⊕(Bool×(Bool)×(Unit))):=fun (i)=>xgb a b i none (fun s=>some (.inl s)) (fun p=>some (.inr p))
def xeO (a b:LA):(Int)→LA×List Box:=fun (i)=>([AV.list 3 a,AV.list 3 b,AV.int .i64 i],[])
def xdU (a b:LA):(Bool×(Bool)×(Unit))→LR:=fun p=>(.node p.1 (.leaf .ret [AV.bool p.2.1] []) (.leaf (.exit 0) [.top] []))
abbrev xwH (a:LA) (H:List Box):=XR Tryz.prog xfL [0,1,5] [4] [] (loopAt Tryz.f13 0) a H
theorem xwu (a b:LA) (i:Int):Enc (encR (xeO a b) (xdU a b)) (xbj a b i) (xwH (xeO a b i).1 (xeO a b i).2):=by
 refine eV (xgb a b i none (fun s=>some (encR (xeO a b) (xdU a b) (.inl s))) (fun p=>some (encR (xeO a b) (xdU a b) (.inr p)))) (by kernel_rfl) ?_;unfold xbj xgb;repeat' first|exact eN|exact eS rfl|apply eB
def xpc:Lp:=lpOf [0,1,5] [4] [] (pCons (pList 3 pAny) (pCons (pList 3 pAny) (pCons (pInt .i64) pNil))) pNil fun (a,(b,(i,_))) _=>((Iter (xbj a b) (i)).isSome,xdU a b ((Iter (xbj a b) (i)).getD (false,false,())))
theorem xvc:LoopOk Tryz.prog (ITryz.at xfL.pin) xfL.nt (loopAt Tryz.f13 0) xpc:=xaY fun d f g e=>by
 obtain ⟨a,⟨b,⟨i,_⟩⟩⟩:=d
 obtain ⟨c,rfl⟩:=Prod.mk.inj e
 exact xaG mxTryz (inv0Ok Tryz.prog _) rfl xvN xsO (xeO a b) (xdU a b) (fun p=>by simp only [xdU,LR.eval];first|(simp;done)|(repeat' split<;>simp)) (xwu a b) (s:=(i)) (xab c)
def xhq:Env:=xDa.fn 42 0 (lsOf []) (lpsOf [(4,xpc)])
theorem xv8:OrcOk Tryz.prog (ITryz.at 0) xhq:=xzv.fn
theorem xtV:LoOk Tryz.prog (ITryz.at xhq.pin) xhq (Tryz.f13.body.getD .skip):=xaP (ls:=[loopAt Tryz.f13 0]) (by kernel_rfl) (lkC xvc lkN)
def xkz {T:Type} (a b:LA) (δ:T) (κ:Bool→T):T:=br ((↑a.length:Int) != (↑b.length:Int)) (κ (false)) (br ((Iter (xbj a b) 0).isSome) (br (((Iter (xbj a b) 0).getD (false,false,())).fst) (κ (((Iter (xbj a b) 0).getD (false,false,())).snd.fst)) (κ (true))) δ)
def xea (a b:LA):Option (Bool):=xkz a b none some
theorem xAU (a b:LA):Enc (fun (p:Bool)=>((AV.bool p):AV)) (xea a b) (XF Tryz.prog xhq Tryz.f13 (Tryz.f13.body.getD .skip) [AV.list 3 a,AV.list 3 b]):=by
 refine eV (xkz a b none (fun (p:Bool)=>some ((AV.bool p):AV))) (by kernel_rfl) ?_;unfold xea xkz;repeat' first|exact eN|exact eS rfl|apply eB
def xsz:LA→Option (Bool×AV):=ocOf (sCons (sList 3 pAny) (sCons (sList 3 pAny) sNil)) fun (a,(b,_))=>((xea a b).isSome,(AV.bool ((xea a b).getD false)))
theorem xAQ:OcOk Tryz.prog ITryz 13 (xsz):=xaN fun f h g=>by
 obtain ⟨a,⟨b,_⟩⟩:=f
 obtain ⟨c,e⟩:=Prod.mk.inj g
 refine xaH (p:=xhq.pin) (xaL mxTryz (inv0Ok Tryz.prog _) rfl xv8 Tryz.func13 rfl (by kernel_rfl) xtV ((xAU _ _ _ (xab (d:=false) c)).trans ?_))
 exact congrArg some e
def xDF:Env:=xDa.with 13 xsz
theorem xz1:OrcOk Tryz.prog ITryz xDF:=xzv.with xAQ
def xhG:Env:=xDF.fn 61 0 (lsOf []) (lpsOf [])
theorem xzh:OrcOk Tryz.prog (ITryz.at 0) xhG:=xz1.fn
theorem xuR:LoOk Tryz.prog (ITryz.at xhG.pin) xhG (loopAt Tryz.f98 0):=xaq (by kernel_rfl)
def xen (a b:LA) (i k:Int):=decide ((xbe ((b.getD k.toNat .top).cells.getD 0 .top).toList ((a.getD i.toNat .top).cells.getD 0 .top).toList).getD 0<0)
def xc2 (a:LA) (i:Int):=decide (i.toNat<a.length)&&((a.getD i.toNat .top).cells.length==3&&hasShs [Sh.list 3,Sh.int .i64,Sh.int .i64] (a.getD i.toNat .top).cells 0)
def xc7 (b:LA) (k:Int):=decide (k.toNat<b.length)&&((b.getD k.toNat .top).cells.length==3&&hasShs [Sh.list 3,Sh.int .i64,Sh.int .i64] (b.getD k.toNat .top).cells 0)
def xb2 (a:LA) (i:Int):=decide (0≤i)&&decide (i<a.length)
def xb3 (b:LA) (k:Int):=decide (0≤k)&&decide (k<b.length)
def xdX {T:Type} (a b:LA) (c:Nat) (i k:Int) (d:LA) (δ:T) (κl:(Nat×Int×Int×LA)→T) (κr:(Nat×LA)→T):T:=br (decide (i<a.length)) (br (i==(↑a.length:Int)) (br (xb3 b k) (br (xc7 b k) (br (c==d.length&&(decide ((c+1)*40≤140737488355328)&&decide (c+1≤4611686018427387904))) (κl (c+1,i,i64.wrap (k+1),d++[AV.agg [AV.list 3 ((b.getD k.toNat .top).cells.getD 0 .top).toList,AV.int .i64 ((b.getD k.toNat .top).cells.getD 1 .top).toInt,AV.int .i64 ((b.getD k.toNat .top).cells.getD 2 .top).toInt]])) δ) δ) δ) (br (decide (k<b.length)) (br (xb3 b k) (br (decide (k.toNat<b.length)&&hasSh1 (Sh.list 3) ((b.getD k.toNat .top).cells.getD 0 .top)) (br (xb2 a i) (br (decide (i.toNat<a.length)&&hasSh1 (Sh.list 3) ((a.getD i.toNat .top).cells.getD 0 .top)) (br ((xbe ((b.getD k.toNat .top).cells.getD 0 .top).toList ((a.getD i.toNat .top).cells.getD 0 .top).toList).isSome) (br (xen a b i k) (br (xb3 b k) (br (xc7 b k) (br (c==d.length&&(decide ((c+1)*40≤140737488355328)&&decide (c+1≤4611686018427387904))) (κl (c+1,i,i64.wrap (k+1),d++[AV.agg [AV.list 3 ((b.getD k.toNat .top).cells.getD 0 .top).toList,AV.int .i64 ((b.getD k.toNat .top).cells.getD 1 .top).toInt,AV.int .i64 ((b.getD k.toNat .top).cells.getD 2 .top).toInt]])) δ) δ) δ) (br (xb2 a i) (br (xc2 a i) (br (c==d.length&&(decide ((c+1)*40≤140737488355328)&&decide (c+1≤4611686018427387904))) (κl (c+1,i64.wrap (i+1),k,d++[AV.agg [AV.list 3 ((a.getD i.toNat .top).cells.getD 0 .top).toList,AV.int .i64 ((a.getD i.toNat .top).cells.getD 1 .top).toInt,AV.int .i64 ((a.getD i.toNat .top).cells.getD 2 .top).toInt]])) δ) δ) δ)) δ) δ) δ) δ) δ) (br (xb2 a i) (br (xc2 a i) (br (c==d.length&&(decide ((c+1)*40≤140737488355328)&&decide (c+1≤4611686018427387904))) (κl (c+1,i64.wrap (i+1),k,d++[AV.agg [AV.list 3 ((a.getD i.toNat .top).cells.getD 0 .top).toList,AV.int .i64 ((a.getD i.toNat .top).cells.getD 1 .top).toInt,AV.int .i64 ((a.getD i.toNat .top).cells.getD 2 .top).toInt]])) δ) δ) δ))) (br (decide (k<b.length)) (br (i==(↑a.length:Int)) (br (xb3 b k) (br (xc7 b k) (br (c==d.length&&(decide ((c+1)*40≤140737488355328)&&decide (c+1≤4611686018427387904))) (κl (c+1,i,i64.wrap (k+1),d++[AV.agg [AV.list 3 ((b.getD k.toNat .top).cells.getD 0 .top).toList,AV.int .i64 ((b.getD k.toNat .top).cells.getD 1 .top).toInt,AV.int .i64 ((b.getD k.toNat .top).cells.getD 2 .top).toInt]])) δ) δ) δ) (br (decide (k<b.length)) (br (xb3 b k) (br (decide (k.toNat<b.length)&&hasSh1 (Sh.list 3) ((b.getD k.toNat .top).cells.getD 0 .top)) (br (xb2 a i) (br (decide (i.toNat<a.length)&&hasSh1 (Sh.list 3) ((a.getD i.toNat .top).cells.getD 0 .top)) (br ((xbe ((b.getD k.toNat .top).cells.getD 0 .top).toList ((a.getD i.toNat .top).cells.getD 0 .top).toList).isSome) (br (xen a b i k) (br (xb3 b k) (br (xc7 b k) (br (c==d.length&&(decide ((c+1)*40≤140737488355328)&&decide (c+1≤4611686018427387904))) (κl (c+1,i,i64.wrap (k+1),d++[AV.agg [AV.list 3 ((b.getD k.toNat .top).cells.getD 0 .top).toList,AV.int .i64 ((b.getD k.toNat .top).cells.getD 1 .top).toInt,AV.int .i64 ((b.getD k.toNat .top).cells.getD 2 .top).toInt]])) δ) δ) δ) (br (xb2 a i) (br (xc2 a i) (br (c==d.length&&(decide ((c+1)*40≤140737488355328)&&decide (c+1≤4611686018427387904))) (κl (c+1,i64.wrap (i+1),k,d++[AV.agg [AV.list 3 ((a.getD i.toNat .top).cells.getD 0 .top).toList,AV.int .i64 ((a.getD i.toNat .top).cells.getD 1 .top).toInt,AV.int .i64 ((a.getD i.toNat .top).cells.getD 2 .top).toInt]])) δ) δ) δ)) δ) δ) δ) δ) δ) (br (xb2 a i) (br (xc2 a i) (br (c==d.length&&(decide ((c+1)*40≤140737488355328)&&decide (c+1≤4611686018427387904))) (κl (c+1,i64.wrap (i+1),k,d++[AV.agg [AV.list 3 ((a.getD i.toNat .top).cells.getD 0 .top).toList,AV.int .i64 ((a.getD i.toNat .top).cells.getD 1 .top).toInt,AV.int .i64 ((a.getD i.toNat .top).cells.getD 2 .top).toInt]])) δ) δ) δ))) (κr (c,d)))
def xbf (a b:LA):(Nat×Int×Int×LA)→Option ((Nat×Int×Int×LA)⊕(Nat×LA)):=fun (d,i,k,c)=>xdX a b d i k c none (fun s=>some (.inl s)) (fun p=>some (.inr p))
def xgv (a b:LA):(Nat×Int×Int×LA)→LA×List Box:=fun (d,i,k,c)=>([AV.list 3 a,AV.list 3 b,AV.osl 0 0 0 d,AV.int .i64 i,AV.int .i64 k],[⟨0,3,42,c,false,true⟩])
def xfn (a b:LA):(Nat×LA)→LR:=fun p=>(.leaf (.exit 0) [AV.osl 0 0 0 p.1] [⟨0,3,42,p.2,false,true⟩])
abbrev xBD (a:LA) (H:List Box):=XR Tryz.prog xhG [0,1,5,6,7] [5] [(5,3,42)] (loopAt Tryz.f98 0) a H
theorem xBI (a b:LA) (s:Nat×Int×Int×LA):Enc (encR (xgv a b) (xfn a b)) (xbf a b s) (xBD (xgv a b s).1 (xgv a b s).2):=by
 obtain ⟨d,i,k,c⟩:=s
 refine eV (xdX a b d i k c none (fun s=>some (encR (xgv a b) (xfn a b) (.inl s))) (fun p=>some (encR (xgv a b) (xfn a b) (.inr p)))) (by kernel_rfl) ?_;unfold xbf xdX;repeat' first|exact eN|exact eS rfl|apply eB
def xrG:Lp:=lpOf [0,1,5,6,7] [5] [(5,3,42)] (pCons (pList 3 pAny) (pCons (pList 3 pAny) (pCons (pOsl 0 0 0) (pCons (pInt .i64) (pCons (pInt .i64) pNil))))) (pCons (pBox 0 3 42 false true pAny) pNil) fun (a,(b,(d,(i,(k,_))))) (c,_)=>((Iter (xbf a b) (d,i,k,c)).isSome,xfn a b ((Iter (xbf a b) (d,i,k,c)).getD (0,[])))
theorem xyX:LoopOk Tryz.prog (ITryz.at xhG.pin) xhG.nt (loopAt Tryz.f98 0) xrG:=xaY fun f g j h=>by
 obtain ⟨a,⟨b,⟨d,⟨i,⟨k,_⟩⟩⟩⟩⟩:=f
 obtain ⟨c,_⟩:=g
 obtain ⟨e,rfl⟩:=Prod.mk.inj h
 exact xaG mxTryz (inv0Ok Tryz.prog _) rfl xzh xuR (xgv a b) (xfn a b) (fun p=>by simp only [xfn,LR.eval];first|(simp;done)|(repeat' split<;>simp)) (xBI a b) (s:=(d,i,k,c)) (xab e)
def xjM:Env:=xDF.fn 61 0 (lsOf []) (lpsOf [(3,xrG)])
theorem xAA:OrcOk Tryz.prog (ITryz.at 0) xjM:=xz1.fn
theorem xwJ:LoOk Tryz.prog (ITryz.at xjM.pin) xjM (Tryz.f98.body.getD .skip):=xaP (ls:=[loopAt Tryz.f98 0]) (by kernel_rfl) (lkC xyX lkN)
def xqg (a b:LA):=Iter (xbf a b) (0,0,0,[])
def xpO (a b:LA):=(xqg a b).getD (0,[])
def xpx (a b:LA):=(xpO a b).fst
def xpR (a b:LA):=(xpO a b).snd
def xnb {T:Type} (a b:LA) (δ:T) (κ:LA→T):T:=br ((xqg a b).isSome) (br (decide (0+xpx a b≤(xpR a b).length)&&true) (κ (List.take (xpx a b) (List.drop 0 (xpR a b)))) δ) δ
def xi4 (a b:LA):Option (LA):=xnb a b none some
theorem xFI (a b:LA):Enc (fun (p:LA)=>((AV.list 3 p):AV)) (xi4 a b) (XF Tryz.prog xjM Tryz.f98 (Tryz.f98.body.getD .skip) [AV.list 3 a,AV.list 3 b]):=by
 refine eV (xnb a b none (fun (p:LA)=>some ((AV.list 3 p):AV))) (by kernel_rfl) ?_;unfold xi4 xnb;repeat' first|exact eN|exact eS rfl|apply eB
def xvw:LA→Option (Bool×AV):=ocOf (sCons (sList 3 pAny) (sCons (sList 3 pAny) sNil)) fun (a,(b,_))=>((xi4 a b).isSome,(AV.list 3 ((xi4 a b).getD [])))
theorem xEG:OcOk Tryz.prog ITryz 98 (xvw):=xaN fun f h g=>by
 obtain ⟨a,⟨b,_⟩⟩:=f
 obtain ⟨c,e⟩:=Prod.mk.inj g
 refine xaH (p:=xjM.pin) (xaL mxTryz (inv0Ok Tryz.prog _) rfl xAA Tryz.func98 rfl (by kernel_rfl) xwJ ((xFI _ _ _ (xab (d:=[]) c)).trans ?_))
 exact congrArg some e
def xIj:Env:=xDF.with 98 xvw
theorem xFW:OrcOk Tryz.prog ITryz xIj:=xz1.with xEG
def xmX (R:LA→Option (LA)):LA→Option (Bool×AV):=ocOf (sCons (sList 3 pAny) sNil) fun (l,_)=>((R l).isSome,AV.list 3 ((R l).getD []))
def xiT (R:LA→Option (LA)):Env:=(xIj.with 73 (xmX R)).fn 20 0 (lsOf []) (lpsOf [])
def xl0 (R:LA→Option (LA)):Prop:=OcOk Tryz.prog ITryz 73 (xmX R)
theorem xyQ (R:LA→Option (LA)) (a:xl0 R):OrcOk Tryz.prog (ITryz.at 0) (xiT R):=(xFW.with a).fn
theorem xvJ (R:LA→Option (LA)):LoOk Tryz.prog (ITryz.at (xiT R).pin) (xiT R) (Tryz.f73.body.getD .skip):=xaq (by kernel_rfl)
def xoP (l:LA):=decide (0≤i64.wrap ((↑l.length:Int).tdiv 2))&&decide (i64.wrap ((↑l.length:Int).tdiv 2)≤(↑l.length:Int))
def xoR (R:LA→Option (LA)) (l:LA):Option (LA):=R (List.take (l.length - (i64.wrap ((↑l.length:Int).tdiv 2)).toNat) (List.drop (i64.wrap ((↑l.length:Int).tdiv 2)).toNat l))
def xoW (R:LA→Option (LA)) (l:LA):Option (LA):=xi4 ((R (List.take ((i64.wrap ((↑l.length:Int).tdiv 2)).toNat - 0) (List.drop 0 l))).getD []) ((xoR R l).getD [])
def xhN {T:Type} (R:LA→Option (LA)) (l:LA) (δ:T) (κ:LA→T):T:=br (decide ((↑l.length:Int)<2)) (κ (l)) (br (xoP l&&true) (br ((R (List.take ((i64.wrap ((↑l.length:Int).tdiv 2)).toNat - 0) (List.drop 0 l))).isSome) (br (xoP l) (br ((xoR R l).isSome) (br ((xoW R l).isSome) (κ ((xoW R l).getD [])) δ) δ) δ) δ) δ)
def xdJ (R:LA→Option (LA)) (l:LA):Option (LA):=xhN R l none some
theorem xEi (R:LA→Option (LA)) (l:LA):Enc (fun (p:LA)=>((AV.list 3 p):AV)) (xdJ R l) (XF Tryz.prog (xiT R) Tryz.f73 (Tryz.f73.body.getD .skip) [AV.list 3 l]):=by
 refine eV (xhN R l none (fun (p:LA)=>some ((AV.list 3 p):AV))) (by kernel_rfl) ?_;unfold xdJ xhN;repeat' first|exact eN|exact eS rfl|apply eB
def xDC (R:LA→Option (LA)):LA→Option (Bool×AV):=ocOf (sCons (sList 3 pAny) sNil) fun (l,_)=>((xdJ R l).isSome,(AV.list 3 ((xdJ R l).getD [])))
theorem xEl (R:LA→Option (LA)) (c:xl0 R):OcOk Tryz.prog ITryz 73 (xDC R):=xaN fun e g f=>by
 obtain ⟨l,_⟩:=e
 obtain ⟨a,b⟩:=Prod.mk.inj f
 refine xaH (p:=(xiT R).pin) (xaL mxTryz (inv0Ok Tryz.prog _) rfl (xyQ R c) Tryz.func73 rfl (by kernel_rfl) (xvJ R) ((xEi R _ _ (xab (d:=[]) a)).trans ?_))
 exact congrArg some b
def xc1:Nat→LA→Option (LA)
 | 0=>fun _=>none
 | fu_+1=>fun l=>xdJ (xc1 fu_) l
theorem xrB:∀ n,xl0 (xc1 n)
 | 0=>xaN fun _ _ h=>absurd (Prod.mk.inj h).1 Bool.false_ne_true
 | fu_+1=>fun a r h=>xEl (xc1 fu_) (xrB fu_) a r h
def xH0:Env:=xIj.with 73 (xmX (xc1 100))
theorem xGl:OrcOk Tryz.prog ITryz xH0:=xFW.with (xrB _)
def xiK:Env:=xH0.fn 18 0 (lsOf []) (lpsOf [])
theorem xAV:OrcOk Tryz.prog (ITryz.at 0) xiK:=xGl.fn
theorem xyE:LoOk Tryz.prog (ITryz.at xiK.pin) xiK (Tryz.f56.body.getD .skip):=xaq (by kernel_rfl)
def xdT (a b:Int):Bool:=(br (decide (a≥0)) (br (decide (a<b)) ((decide (b≤1099511627776))) ((false))) ((false)))
def xue (a b:Int):Bool:=true
def xw7 {T:Type} (a b:Int) (δ:T) (κ:Bool→T):T:=br (decide (a≥0)) (br (decide (a<b)) (κ (decide (b≤1099511627776))) (κ (false))) (κ (false))
theorem xGG (a b:Int):Pre (xue a b) (XF Tryz.prog xiK Tryz.f56 (Tryz.f56.body.getD .skip) [AV.agg [AV.int .i64 a,AV.int .i64 b]]) (AV.bool (xdT a b)):=by
 have h:XF Tryz.prog xiK Tryz.f56 (Tryz.f56.body.getD .skip) [AV.agg [AV.int .i64 a,AV.int .i64 b]]=xw7 a b none (fun (p:Bool)=>some ((AV.bool p):AV)):=by kernel_rfl
 rw [h];unfold xdT xue xw7;repeat' (first|exact Pre.none|exact Pre.tt rfl|exact Pre.some rfl|refine Pre.l ?_|refine Pre.r ?_|refine Pre.br (f:=fun (p:Bool)=>((AV.bool p):AV)) ?_ ?_|refine Pre.brt (f:=fun (p:Bool)=>((AV.bool p):AV)) ?_ ?_)
def xyj:LA→Option (Bool×AV):=ocOf (sCons (sAgg (sCons (sEq (pInt .i64)) (sCons (sEq (pInt .i64)) sNil))) sNil) fun ((a,(b,_)),_)=>(true,(AV.bool (xdT a b)))
theorem xG2:OcOk Tryz.prog ITryz 56 (xyj):=xaN fun b g c=>by
 obtain ⟨⟨d,⟨e,_⟩⟩,_⟩:=b
 obtain ⟨f,a⟩:=Prod.mk.inj c
 refine xaH (p:=xiK.pin) (xaL mxTryz (inv0Ok Tryz.prog _) rfl xAV Tryz.func56 rfl (by kernel_rfl) xyE ((Pre.get (xGG _ _) rfl).trans ?_))
 exact congrArg some a
def xIC:Env:=xH0.with 56 xyj
theorem xGn:OrcOk Tryz.prog ITryz xIC:=xGl.with xG2
def xgm:Env:=xIC.fn 19 0 (lsOf []) (lpsOf [])
theorem xwp:OrcOk Tryz.prog (ITryz.at 0) xgm:=xGn.fn
theorem xu9:LoOk Tryz.prog (ITryz.at xgm.pin) xgm (Tryz.f26.body.getD .skip):=xaq (by kernel_rfl)
def xiM (a b t:Int):Bool:=(br (xdT a b) (br (decide (a≤t)) ((decide (t<b))) ((false))) ((false)))
def xrQ (a b t:Int):Bool:=true
def xtk {T:Type} (a b t:Int) (δ:T) (κ:Bool→T):T:=br (xdT a b) (br (decide (a≤t)) (κ (decide (t<b))) (κ (false))) (κ (false))
theorem xCJ (a b t:Int):Pre (xrQ a b t) (XF Tryz.prog xgm Tryz.f26 (Tryz.f26.body.getD .skip) [AV.agg [AV.int .i64 a,AV.int .i64 b],AV.int .i64 t]) (AV.bool (xiM a b t)):=by
 have h:XF Tryz.prog xgm Tryz.f26 (Tryz.f26.body.getD .skip) [AV.agg [AV.int .i64 a,AV.int .i64 b],AV.int .i64 t]=xtk a b t none (fun (p:Bool)=>some ((AV.bool p):AV)):=by kernel_rfl
 rw [h];unfold xiM xrQ xtk;repeat' (first|exact Pre.none|exact Pre.tt rfl|exact Pre.some rfl|refine Pre.l ?_|refine Pre.r ?_|refine Pre.br (f:=fun (p:Bool)=>((AV.bool p):AV)) ?_ ?_|refine Pre.brt (f:=fun (p:Bool)=>((AV.bool p):AV)) ?_ ?_)
def xtN:LA→Option (Bool×AV):=ocOf (sCons (sAgg (sCons (sEq (pInt .i64)) (sCons (sEq (pInt .i64)) sNil))) (sCons (sEq (pInt .i64)) sNil)) fun ((a,(b,_)),(t,_))=>(true,(AV.bool (xiM a b t)))
theorem xCD:OcOk Tryz.prog ITryz 26 (xtN):=xaN fun b g c=>by
 obtain ⟨⟨d,⟨e,_⟩⟩,⟨t,_⟩⟩:=b
 obtain ⟨f,a⟩:=Prod.mk.inj c
 refine xaH (p:=xgm.pin) (xaL mxTryz (inv0Ok Tryz.prog _) rfl xwp Tryz.func26 rfl (by kernel_rfl) xu9 ((Pre.get (xCJ _ _ _) rfl).trans ?_))
 exact congrArg some a
def xHJ:Env:=xIC.with 26 xtN
theorem xGw:OrcOk Tryz.prog ITryz xHJ:=xGn.with xCD
def xhb:Env:=xHJ.fn 27 0 (lsOf []) (lpsOf [])
theorem xyx:OrcOk Tryz.prog (ITryz.at 0) xhb:=xGw.fn
theorem xvK:LoOk Tryz.prog (ITryz.at xhb.pin) xhb (Tryz.f31.body.getD .skip):=xaq (by kernel_rfl)
def xjn (a b c d:Int):Int:=(br (a==c&&(b==d&&true)) ((0)) (br (decide (a<c)) (((-1))) (br (a==c) (br (decide (b<d)) (((-1))) ((1))) ((1)))))
def xsE (a b c d:Int):Bool:=true
def xuz {T:Type} (a b c d:Int) (δ:T) (κ:Int→T):T:=br (a==c&&(b==d&&true)) (κ (0)) (br (decide (a<c)) (κ ((-1))) (br (a==c) (br (decide (b<d)) (κ ((-1))) (κ (1))) (κ (1))))
theorem xD9 (a b c d:Int):Pre (xsE a b c d) (XF Tryz.prog xhb Tryz.f31 (Tryz.f31.body.getD .skip) [AV.agg [AV.int .i64 a,AV.int .i64 b],AV.agg [AV.int .i64 c,AV.int .i64 d]]) (AV.int .i64 (xjn a b c d)):=by
 have h:XF Tryz.prog xhb Tryz.f31 (Tryz.f31.body.getD .skip) [AV.agg [AV.int .i64 a,AV.int .i64 b],AV.agg [AV.int .i64 c,AV.int .i64 d]]=xuz a b c d none (fun (p:Int)=>some ((AV.int .i64 p):AV)):=by kernel_rfl
 rw [h];unfold xjn xsE xuz;repeat' (first|exact Pre.none|exact Pre.tt rfl|exact Pre.some rfl|refine Pre.l ?_|refine Pre.r ?_|refine Pre.br (f:=fun (p:Int)=>((AV.int .i64 p):AV)) ?_ ?_|refine Pre.brt (f:=fun (p:Int)=>((AV.int .i64 p):AV)) ?_ ?_)
def xug:LA→Option (Bool×AV):=ocOf (sCons (sAgg (sCons (sEq (pInt .i64)) (sCons (sEq (pInt .i64)) sNil))) (sCons (sAgg (sCons (sEq (pInt .i64)) (sCons (sEq (pInt .i64)) sNil))) sNil)) fun ((a,(b,_)),((c,(d,_)),_))=>(true,(AV.int .i64 (xjn a b c d)))
theorem xEw:OcOk Tryz.prog ITryz 31 (xug):=xaN fun b i c=>by
 obtain ⟨⟨d,⟨e,_⟩⟩,⟨⟨f,⟨g,_⟩⟩,_⟩⟩:=b
 obtain ⟨h,a⟩:=Prod.mk.inj c
 refine xaH (p:=xhb.pin) (xaL mxTryz (inv0Ok Tryz.prog _) rfl xyx Tryz.func31 rfl (by kernel_rfl) xvK ((Pre.get (xD9 _ _ _ _) rfl).trans ?_))
 exact congrArg some a
def xFt:Env:=xHJ.with 31 xug
theorem xEr:OrcOk Tryz.prog ITryz xFt:=xGw.with xEw
def xgw:Env:=xFt.fn 25 0 (lsOf []) (lpsOf [])
theorem xwz:OrcOk Tryz.prog (ITryz.at 0) xgw:=xEr.fn
theorem xvk:LoOk Tryz.prog (ITryz.at xgw.pin) xgw (Tryz.f33.body.getD .skip):=xaq (by kernel_rfl)
def xg4 (a b c d:Int):Bool:=(br (xdT a b) (br (xdT c d) (br (decide (a<d)) ((decide (c<b))) ((false))) ((false))) ((false)))
def xrZ (a b c d:Int):Bool:=true
def xtK {T:Type} (a b c d:Int) (δ:T) (κ:Bool→T):T:=br (xdT a b) (br (xdT c d) (br (decide (a<d)) (κ (decide (c<b))) (κ (false))) (κ (false))) (κ (false))
theorem xCz (a b c d:Int):Pre (xrZ a b c d) (XF Tryz.prog xgw Tryz.f33 (Tryz.f33.body.getD .skip) [AV.agg [AV.int .i64 a,AV.int .i64 b],AV.agg [AV.int .i64 c,AV.int .i64 d]]) (AV.bool (xg4 a b c d)):=by
 have h:XF Tryz.prog xgw Tryz.f33 (Tryz.f33.body.getD .skip) [AV.agg [AV.int .i64 a,AV.int .i64 b],AV.agg [AV.int .i64 c,AV.int .i64 d]]=xtK a b c d none (fun (p:Bool)=>some ((AV.bool p):AV)):=by kernel_rfl
 rw [h];unfold xg4 xrZ xtK;repeat' (first|exact Pre.none|exact Pre.tt rfl|exact Pre.some rfl|refine Pre.l ?_|refine Pre.r ?_|refine Pre.br (f:=fun (p:Bool)=>((AV.bool p):AV)) ?_ ?_|refine Pre.brt (f:=fun (p:Bool)=>((AV.bool p):AV)) ?_ ?_)
def xtl:LA→Option (Bool×AV):=ocOf (sCons (sAgg (sCons (sEq (pInt .i64)) (sCons (sEq (pInt .i64)) sNil))) (sCons (sAgg (sCons (sEq (pInt .i64)) (sCons (sEq (pInt .i64)) sNil))) sNil)) fun ((a,(b,_)),((c,(d,_)),_))=>(true,(AV.bool (xg4 a b c d)))
theorem xCt:OcOk Tryz.prog ITryz 33 (xtl):=xaN fun b i c=>by
 obtain ⟨⟨d,⟨e,_⟩⟩,⟨⟨f,⟨g,_⟩⟩,_⟩⟩:=b
 obtain ⟨h,a⟩:=Prod.mk.inj c
 refine xaH (p:=xgw.pin) (xaL mxTryz (inv0Ok Tryz.prog _) rfl xwz Tryz.func33 rfl (by kernel_rfl) xvk ((Pre.get (xCz _ _ _ _) rfl).trans ?_))
 exact congrArg some a
def xFf:Env:=xFt.with 33 xtl
theorem xDu:OrcOk Tryz.prog ITryz xFf:=xEr.with xCt
def xfV:Env:=xFf.fn 22 0 (lsOf []) (lpsOf [])
theorem xvU:OrcOk Tryz.prog (ITryz.at 0) xfV:=xDu.fn
theorem xtU:LoOk Tryz.prog (ITryz.at xfV.pin) xfV (Tryz.f59.body.getD .skip):=xaq (by kernel_rfl)
def xcH (a b c d:Int):Int×Int×Bool:=(br (!xg4 a b c d) ((0,0,false)) ((if c>a then c else a,if d<b then d else b,true)))
def xqY (a b c d:Int):Bool:=true
def xsD {T:Type} (a b c d:Int) (δ:T) (κ:Int×Int×Bool→T):T:=br (!xg4 a b c d) (κ (0,0,false)) (κ (if c>a then c else a,if d<b then d else b,true))
theorem xAX (a b c d:Int):Pre (xqY a b c d) (XF Tryz.prog xfV Tryz.f59 (Tryz.f59.body.getD .skip) [AV.agg [AV.int .i64 a,AV.int .i64 b],AV.agg [AV.int .i64 c,AV.int .i64 d]]) (AV.tuple [AV.agg [AV.int .i64 (xcH a b c d).1,AV.int .i64 (xcH a b c d).2.1],AV.bool (xcH a b c d).2.2]):=by
 have h:XF Tryz.prog xfV Tryz.f59 (Tryz.f59.body.getD .skip) [AV.agg [AV.int .i64 a,AV.int .i64 b],AV.agg [AV.int .i64 c,AV.int .i64 d]]=xsD a b c d none (fun (p:Int×Int×Bool)=>some ((AV.tuple [AV.agg [AV.int .i64 p.1,AV.int .i64 p.2.1],AV.bool p.2.2]):AV)):=by kernel_rfl
 rw [h];unfold xcH xqY xsD;repeat' (first|exact Pre.none|exact Pre.tt rfl|exact Pre.some rfl|refine Pre.l ?_|refine Pre.r ?_|refine Pre.br (f:=fun (p:Int×Int×Bool)=>((AV.tuple [AV.agg [AV.int .i64 p.1,AV.int .i64 p.2.1],AV.bool p.2.2]):AV)) ?_ ?_|refine Pre.brt (f:=fun (p:Int×Int×Bool)=>((AV.tuple [AV.agg [AV.int .i64 p.1,AV.int .i64 p.2.1],AV.bool p.2.2]):AV)) ?_ ?_)
def xsB:LA→Option (Bool×AV):=ocOf (sCons (sAgg (sCons (sEq (pInt .i64)) (sCons (sEq (pInt .i64)) sNil))) (sCons (sAgg (sCons (sEq (pInt .i64)) (sCons (sEq (pInt .i64)) sNil))) sNil)) fun ((a,(b,_)),((c,(d,_)),_))=>(true,(AV.tuple [AV.agg [AV.int .i64 (xcH a b c d).1,AV.int .i64 (xcH a b c d).2.1],AV.bool (xcH a b c d).2.2]))
theorem xBv:OcOk Tryz.prog ITryz 59 (xsB):=xaN fun b i c=>by
 obtain ⟨⟨d,⟨e,_⟩⟩,⟨⟨f,⟨g,_⟩⟩,_⟩⟩:=b
 obtain ⟨h,a⟩:=Prod.mk.inj c
 refine xaH (p:=xfV.pin) (xaL mxTryz (inv0Ok Tryz.prog _) rfl xvU Tryz.func59 rfl (by kernel_rfl) xtU ((Pre.get (xAX _ _ _ _) rfl).trans ?_))
 exact congrArg some a
def xJ6:Env:=xFf.with 59 xsB
theorem xKo:OrcOk Tryz.prog ITryz xJ6:=xDu.with xBv
abbrev xJE:Env:=xJ6
theorem xKw:OrcOk Tryz.prog ITryz xJE:=xKo
abbrev xFl:Env:=xJE
theorem xEC:OrcOk Tryz.prog ITryz xFl:=xKw
def xjo:Env:=xFl.fn 2 0 (lsOf []) (lpsOf [])
theorem xCA:OrcOk Tryz.prog (ITryz.at 0) xjo:=xEC.fn
theorem xyL:LoOk Tryz.prog (ITryz.at xjo.pin) xjo (Tryz.f175.body.getD .skip):=xaq (by kernel_rfl)
def xln:Int×Int×List UInt8:=((0,0,[]))
def xvI:Bool:=true
def xAn {T:Type} (δ:T) (κ:Int×Int×List UInt8→T):T:=κ (0,0,[])
theorem xIa:Pre (xvI) (XF Tryz.prog xjo Tryz.f175 (Tryz.f175.body.getD .skip) []) (AV.agg [AV.int .i64 xln.1,AV.int .i64 xln.2.1,AV.str xln.2.2]):=by
 have h:XF Tryz.prog xjo Tryz.f175 (Tryz.f175.body.getD .skip) []=xAn none (fun (p:Int×Int×List UInt8)=>some ((AV.agg [AV.int .i64 p.1,AV.int .i64 p.2.1,AV.str p.2.2]):AV)):=by kernel_rfl
 rw [h];unfold xln xvI xAn;repeat' (first|exact Pre.none|exact Pre.tt rfl|exact Pre.some rfl|refine Pre.l ?_|refine Pre.r ?_|refine Pre.br (f:=fun (p:Int×Int×List UInt8)=>((AV.agg [AV.int .i64 p.1,AV.int .i64 p.2.1,AV.str p.2.2]):AV)) ?_ ?_|refine Pre.brt (f:=fun (p:Int×Int×List UInt8)=>((AV.agg [AV.int .i64 p.1,AV.int .i64 p.2.1,AV.str p.2.2]):AV)) ?_ ?_)
def xzV:LA→Option (Bool×AV):=ocOf sNil fun _=>(true,(AV.agg [AV.int .i64 xln.1,AV.int .i64 xln.2.1,AV.str xln.2.2]))
theorem xIi:OcOk Tryz.prog ITryz 175 (xzV):=xaN fun d e b=>by
 obtain ⟨c,a⟩:=Prod.mk.inj b
 refine xaH (p:=xjo.pin) (xaL mxTryz (inv0Ok Tryz.prog _) rfl xCA Tryz.func175 rfl (by kernel_rfl) xyL ((Pre.get (xIa) rfl).trans ?_))
 exact congrArg some a
def xFv:Env:=xFl.with 175 xzV
theorem xC6:OrcOk Tryz.prog ITryz xFv:=xEC.with xIi
def xoc:Env:=xFv.fn 18 0 (lsOf []) (lpsOf [])
theorem xFG:OrcOk Tryz.prog (ITryz.at 0) xoc:=xC6.fn
theorem xBH:LoOk Tryz.prog (ITryz.at xoc.pin) xoc (Tryz.f156.body.getD .skip):=xaq (by kernel_rfl)
def xw4 {T:Type} (a:LA) (i:Int) (δ:T) (κ:Int×Int×List UInt8→T):T:=br (decide (i<0)) (κ (0,0,[])) (br (decide (i≥a.length)) (κ (0,0,[])) (br (decide (0≤i)&&decide (i<a.length)) (br (decide (i.toNat<a.length)&&((a.getD i.toNat .top).cells.length==3&&hasShs [Sh.int .i64,Sh.int .i64,Sh.str] (a.getD i.toNat .top).cells 0)) (κ (((a.getD i.toNat .top).cells.getD 0 .top).toInt,((a.getD i.toNat .top).cells.getD 1 .top).toInt,((a.getD i.toNat .top).cells.getD 2 .top).toStr)) δ) δ))
def xkm (a:LA) (i:Int):Option (Int×Int×List UInt8):=xw4 a i none some
theorem xKJ (a:LA) (i:Int):Enc (fun (p:Int×Int×List UInt8)=>((AV.agg [AV.int .i64 p.1,AV.int .i64 p.2.1,AV.str p.2.2]):AV)) (xkm a i) (XF Tryz.prog xoc Tryz.f156 (Tryz.f156.body.getD .skip) [AV.list 3 a,AV.int .i64 i]):=by
 refine eV (xw4 a i none (fun (p:Int×Int×List UInt8)=>some ((AV.agg [AV.int .i64 p.1,AV.int .i64 p.2.1,AV.str p.2.2]):AV))) (by kernel_rfl) ?_;unfold xkm xw4;repeat' first|exact eN|exact eS rfl|apply eB
def xEq:LA→Option (Bool×AV):=ocOf (sCons (sList 3 pAny) (sCons (sEq (pInt .i64)) sNil)) fun (a,(i,_))=>((xkm a i).isSome,(AV.agg [AV.int .i64 ((xkm a i).getD (0,0,[])).1,AV.int .i64 ((xkm a i).getD (0,0,[])).2.1,AV.str ((xkm a i).getD (0,0,[])).2.2]))
theorem xKj:OcOk Tryz.prog ITryz 156 (xEq):=xaN fun c g e=>by
 obtain ⟨f,⟨i,_⟩⟩:=c
 obtain ⟨a,b⟩:=Prod.mk.inj e
 refine xaH (p:=xoc.pin) (xaL mxTryz (inv0Ok Tryz.prog _) rfl xFG Tryz.func156 rfl (by kernel_rfl) xBH ((xKJ _ _ _ (xab (d:=(0,0,[])) a)).trans ?_))
 exact congrArg some b
def xAI:Env:=xFv.with 156 xEq
theorem xww:OrcOk Tryz.prog ITryz xAI:=xC6.with xKj
def xh5:Env:=xAI.fn 44 0 (lsOf []) (lpsOf [])
theorem xAb:OrcOk Tryz.prog (ITryz.at 0) xh5:=xww.fn
theorem xtY:LoOk Tryz.prog (ITryz.at xh5.pin) xh5 (loopAt Tryz.f136 0):=xaq (by kernel_rfl)
def xmw (o:LA) (i:Int):=decide (0≤i)&&decide (i<o.length)
def xrN (b o:LA) (i:Int):=(xkm b ((o.getD i.toNat .top).cells.getD 0 .top).toInt).getD (0,0,[])
def xrO (a o:LA) (i:Int):=(xkm a ((o.getD i.toNat .top).cells.getD 0 .top).toInt).getD (0,0,[])
def xrR (b o:LA) (i:Int):=(xrN b o i).snd
def xr4 (a o:LA) (i:Int):=(xrO a o i).snd
def xrV (a b o:LA) (i:Int):=xgK (xrO a o i).fst (xr4 a o i).fst (xr4 a o i).snd (xrN b o i).fst (xrR b o i).fst (xrR b o i).snd
def xkA {T:Type} (a b o:LA) (i:Int) (δ:T) (κl:(Int)→T) (κr:(Bool×(Bool)×(Unit))→T):T:=br (decide (i<o.length)) (br (xmw o i) (br (decide (i.toNat<o.length)&&hasSh1 (Sh.int .i64) ((o.getD i.toNat .top).cells.getD 0 .top)) (br ((xkm a ((o.getD i.toNat .top).cells.getD 0 .top).toInt).isSome) (br (xmw o i) (br (decide (i.toNat<o.length)&&hasSh1 (Sh.int .i64) ((o.getD i.toNat .top).cells.getD 0 .top)) (br ((xkm b ((o.getD i.toNat .top).cells.getD 0 .top).toInt).isSome) (br (xrV a b o i != 0) (br (xmw o i) (br (decide (i.toNat<o.length)&&hasSh1 Sh.bool ((o.getD i.toNat .top).cells.getD 1 .top)) (κr (true,(!decide (xrV a b o i<0)==((o.getD i.toNat .top).cells.getD 1 .top).toBool),())) δ) δ) (κl (i64.wrap (i+1)))) δ) δ) δ) δ) δ) δ) (κr (false,false,()))
def xcu (a b o:LA):(Int)→Option ((Int)⊕(Bool×(Bool)×(Unit))):=fun (i)=>xkA a b o i none (fun s=>some (.inl s)) (fun p=>some (.inr p))
def xgt (a b o:LA):(Int)→LA×List Box:=fun (i)=>([AV.list 3 a,AV.list 3 b,AV.list 2 o,AV.int .i64 i],[])
def xe4 (a b o:LA):(Bool×(Bool)×(Unit))→LR:=fun p=>(.node p.1 (.leaf .ret [AV.list 3 a,AV.list 3 b,AV.bool p.2.1] []) (.leaf (.exit 0) [AV.list 3 a,AV.list 3 b,.top] []))
abbrev xBi (a:LA) (H:List Box):=XR Tryz.prog xh5 [0,1,2,7] [0,1,6] [] (loopAt Tryz.f136 0) a H
theorem xAR (a b o:LA) (i:Int):Enc (encR (xgt a b o) (xe4 a b o)) (xcu a b o i) (xBi (xgt a b o i).1 (xgt a b o i).2):=by
 refine eV (xkA a b o i none (fun s=>some (encR (xgt a b o) (xe4 a b o) (.inl s))) (fun p=>some (encR (xgt a b o) (xe4 a b o) (.inr p)))) (by kernel_rfl) ?_;unfold xcu xkA;repeat' first|exact eN|exact eS rfl|apply eB
def xsf:Lp:=lpOf [0,1,2,7] [0,1,6] [] (pCons (pList 3 pAny) (pCons (pList 3 pAny) (pCons (pList 2 pAny) (pCons (pInt .i64) pNil)))) pNil fun (a,(b,(o,(i,_)))) _=>((Iter (xcu a b o) (i)).isSome,xe4 a b o ((Iter (xcu a b o) (i)).getD (false,false,())))
theorem xyM:LoopOk Tryz.prog (ITryz.at xh5.pin) xh5.nt (loopAt Tryz.f136 0) xsf:=xaY fun d f g e=>by
 obtain ⟨a,⟨b,⟨o,⟨i,_⟩⟩⟩⟩:=d
 obtain ⟨c,rfl⟩:=Prod.mk.inj e
 exact xaG mxTryz (inv0Ok Tryz.prog _) rfl xAb xtY (xgt a b o) (xe4 a b o) (fun p=>by simp only [xe4,LR.eval];first|(simp;done)|(repeat' split<;>simp)) (xAR a b o) (s:=(i)) (xab c)
def xjG:Env:=xAI.fn 44 0 (lsOf []) (lpsOf [(2,xsf)])
theorem xy7:OrcOk Tryz.prog (ITryz.at 0) xjG:=xww.fn
theorem xvL:LoOk Tryz.prog (ITryz.at xjG.pin) xjG (Tryz.f136.body.getD .skip):=xaP (ls:=[loopAt Tryz.f136 0]) (by kernel_rfl) (lkC xyM lkN)
def xm9 {T:Type} (a b o:LA) (δ:T) (κ:Bool→T):T:=br ((Iter (xcu a b o) 0).isSome) (br (((Iter (xcu a b o) 0).getD (false,false,())).fst) (κ (((Iter (xcu a b o) 0).getD (false,false,())).snd.fst)) (br ((xbe a b).isSome) (κ (decide ((xbe a b).getD 0<0))) δ)) δ
def xfC (a b o:LA):Option (Bool):=xm9 a b o none some
theorem xEW (a b o:LA):Enc (fun (p:Bool)=>((AV.bool p):AV)) (xfC a b o) (XF Tryz.prog xjG Tryz.f136 (Tryz.f136.body.getD .skip) [AV.list 3 a,AV.list 3 b,AV.list 2 o]):=by
 refine eV (xm9 a b o none (fun (p:Bool)=>some ((AV.bool p):AV))) (by kernel_rfl) ?_;unfold xfC xm9;repeat' first|exact eN|exact eS rfl|apply eB
def xvx:LA→Option (Bool×AV):=ocOf (sCons (sList 3 pAny) (sCons (sList 3 pAny) (sCons (sList 2 pAny) sNil))) fun (a,(b,(o,_)))=>((xfC a b o).isSome,(AV.bool ((xfC a b o).getD false)))
theorem xET:OcOk Tryz.prog ITryz 136 (xvx):=xaN fun f h g=>by
 obtain ⟨a,⟨b,⟨o,_⟩⟩⟩:=f
 obtain ⟨c,e⟩:=Prod.mk.inj g
 refine xaH (p:=xjG.pin) (xaL mxTryz (inv0Ok Tryz.prog _) rfl xy7 Tryz.func136 rfl (by kernel_rfl) xvL ((xEW _ _ _ _ (xab (d:=false) c)).trans ?_))
 exact congrArg some e
def xAP:Env:=xAI.with 136 xvx
theorem xwA:OrcOk Tryz.prog ITryz xAP:=xww.with xET
def xhW:Env:=xAP.fn 62 0 (lsOf []) (lpsOf [])
theorem xzG:OrcOk Tryz.prog (ITryz.at 0) xhW:=xwA.fn
theorem xtQ:LoOk Tryz.prog (ITryz.at xhW.pin) xhW (loopAt Tryz.f110 0):=xaq (by kernel_rfl)
def xb0 (a:LA) (i:Int):=decide (i.toNat<a.length)&&hasSh1 (Sh.list 3) ((a.getD i.toNat .top).cells.getD 0 .top)
def xb5 (b:LA) (k:Int):=decide (k.toNat<b.length)&&hasSh1 (Sh.list 3) ((b.getD k.toNat .top).cells.getD 0 .top)
def xb4 (b:LA) (k:Int):=decide (0≤k)&&decide (k<b.length)
def xbZ (a:LA) (i:Int):=decide (0≤i)&&decide (i<a.length)
def xdW {T:Type} (a b o:LA) (c:Nat) (i k:Int) (d:LA) (δ:T) (κl:(Nat×Int×Int×LA)→T) (κr:(Nat×LA)→T):T:=br (decide (i<a.length)) (br (i==(↑a.length:Int)) (br (xb4 b k) (br (xb5 b k) (br (c==d.length&&(decide ((c+1)*24≤140737488355328)&&decide (c+1≤4611686018427387904))) (κl (c+1,i,i64.wrap (k+1),d++[AV.list 3 ((b.getD k.toNat .top).cells.getD 0 .top).toList])) δ) δ) δ) (br (decide (k<b.length)) (br (xb4 b k) (br (xb5 b k) (br (xbZ a i) (br (xb0 a i) (br ((xfC ((b.getD k.toNat .top).cells.getD 0 .top).toList ((a.getD i.toNat .top).cells.getD 0 .top).toList o).isSome) (br ((xfC ((b.getD k.toNat .top).cells.getD 0 .top).toList ((a.getD i.toNat .top).cells.getD 0 .top).toList o).getD false) (br (xb4 b k) (br (xb5 b k) (br (c==d.length&&(decide ((c+1)*24≤140737488355328)&&decide (c+1≤4611686018427387904))) (κl (c+1,i,i64.wrap (k+1),d++[AV.list 3 ((b.getD k.toNat .top).cells.getD 0 .top).toList])) δ) δ) δ) (br (xbZ a i) (br (xb0 a i) (br (c==d.length&&(decide ((c+1)*24≤140737488355328)&&decide (c+1≤4611686018427387904))) (κl (c+1,i64.wrap (i+1),k,d++[AV.list 3 ((a.getD i.toNat .top).cells.getD 0 .top).toList])) δ) δ) δ)) δ) δ) δ) δ) δ) (br (xbZ a i) (br (xb0 a i) (br (c==d.length&&(decide ((c+1)*24≤140737488355328)&&decide (c+1≤4611686018427387904))) (κl (c+1,i64.wrap (i+1),k,d++[AV.list 3 ((a.getD i.toNat .top).cells.getD 0 .top).toList])) δ) δ) δ))) (br (decide (k<b.length)) (br (i==(↑a.length:Int)) (br (xb4 b k) (br (xb5 b k) (br (c==d.length&&(decide ((c+1)*24≤140737488355328)&&decide (c+1≤4611686018427387904))) (κl (c+1,i,i64.wrap (k+1),d++[AV.list 3 ((b.getD k.toNat .top).cells.getD 0 .top).toList])) δ) δ) δ) (br (decide (k<b.length)) (br (xb4 b k) (br (xb5 b k) (br (xbZ a i) (br (xb0 a i) (br ((xfC ((b.getD k.toNat .top).cells.getD 0 .top).toList ((a.getD i.toNat .top).cells.getD 0 .top).toList o).isSome) (br ((xfC ((b.getD k.toNat .top).cells.getD 0 .top).toList ((a.getD i.toNat .top).cells.getD 0 .top).toList o).getD false) (br (xb4 b k) (br (xb5 b k) (br (c==d.length&&(decide ((c+1)*24≤140737488355328)&&decide (c+1≤4611686018427387904))) (κl (c+1,i,i64.wrap (k+1),d++[AV.list 3 ((b.getD k.toNat .top).cells.getD 0 .top).toList])) δ) δ) δ) (br (xbZ a i) (br (xb0 a i) (br (c==d.length&&(decide ((c+1)*24≤140737488355328)&&decide (c+1≤4611686018427387904))) (κl (c+1,i64.wrap (i+1),k,d++[AV.list 3 ((a.getD i.toNat .top).cells.getD 0 .top).toList])) δ) δ) δ)) δ) δ) δ) δ) δ) (br (xbZ a i) (br (xb0 a i) (br (c==d.length&&(decide ((c+1)*24≤140737488355328)&&decide (c+1≤4611686018427387904))) (κl (c+1,i64.wrap (i+1),k,d++[AV.list 3 ((a.getD i.toNat .top).cells.getD 0 .top).toList])) δ) δ) δ))) (κr (c,d)))
def xbh (a b o:LA):(Nat×Int×Int×LA)→Option ((Nat×Int×Int×LA)⊕(Nat×LA)):=fun (d,i,k,c)=>xdW a b o d i k c none (fun s=>some (.inl s)) (fun p=>some (.inr p))
def xgF (a b o:LA):(Nat×Int×Int×LA)→LA×List Box:=fun (d,i,k,c)=>([AV.list 1 a,AV.list 1 b,AV.list 2 o,AV.osl 0 0 0 d,AV.int .i64 i,AV.int .i64 k],[⟨0,1,40,c,false,true⟩])
def xfa (a b o:LA):(Nat×LA)→LR:=fun p=>(.leaf (.exit 0) [AV.osl 0 0 0 p.1] [⟨0,1,40,p.2,false,true⟩])
abbrev xBG (a:LA) (H:List Box):=XR Tryz.prog xhW [0,1,2,7,8,9] [7] [(7,1,40)] (loopAt Tryz.f110 0) a H
theorem xBa (a b o:LA) (s:Nat×Int×Int×LA):Enc (encR (xgF a b o) (xfa a b o)) (xbh a b o s) (xBG (xgF a b o s).1 (xgF a b o s).2):=by
 obtain ⟨d,i,k,c⟩:=s
 refine eV (xdW a b o d i k c none (fun s=>some (encR (xgF a b o) (xfa a b o) (.inl s))) (fun p=>some (encR (xgF a b o) (xfa a b o) (.inr p)))) (by kernel_rfl) ?_;unfold xbh xdW;repeat' first|exact eN|exact eS rfl|apply eB
def xrS:Lp:=lpOf [0,1,2,7,8,9] [7] [(7,1,40)] (pCons (pList 1 pAny) (pCons (pList 1 pAny) (pCons (pList 2 pAny) (pCons (pOsl 0 0 0) (pCons (pInt .i64) (pCons (pInt .i64) pNil)))))) (pCons (pBox 0 1 40 false true pAny) pNil) fun (a,(b,(o,(d,(i,(k,_)))))) (c,_)=>((Iter (xbh a b o) (d,i,k,c)).isSome,xfa a b o ((Iter (xbh a b o) (d,i,k,c)).getD (0,[])))
theorem xys:LoopOk Tryz.prog (ITryz.at xhW.pin) xhW.nt (loopAt Tryz.f110 0) xrS:=xaY fun f g j h=>by
 obtain ⟨a,⟨b,⟨o,⟨d,⟨i,⟨k,_⟩⟩⟩⟩⟩⟩:=f
 obtain ⟨c,_⟩:=g
 obtain ⟨e,rfl⟩:=Prod.mk.inj h
 exact xaG mxTryz (inv0Ok Tryz.prog _) rfl xzG xtQ (xgF a b o) (xfa a b o) (fun p=>by simp only [xfa,LR.eval];first|(simp;done)|(repeat' split<;>simp)) (xBa a b o) (s:=(d,i,k,c)) (xab e)
def xjx:Env:=xAP.fn 62 0 (lsOf []) (lpsOf [(3,xrS)])
theorem xzA:OrcOk Tryz.prog (ITryz.at 0) xjx:=xwA.fn
theorem xvX:LoOk Tryz.prog (ITryz.at xjx.pin) xjx (Tryz.f110.body.getD .skip):=xaP (ls:=[loopAt Tryz.f110 0]) (by kernel_rfl) (lkC xys lkN)
def xqe (a b o:LA):=Iter (xbh a b o) (0,0,0,[])
def xpF (a b o:LA):=(xqe a b o).getD (0,[])
def xpX (a b o:LA):=(xpF a b o).snd
def xpA (a b o:LA):=(xpF a b o).fst
def xnh {T:Type} (a b o:LA) (δ:T) (κ:LA→T):T:=br ((xqe a b o).isSome) (br (decide (0+xpA a b o≤(xpX a b o).length)&&true) (κ (List.take (xpA a b o) (List.drop 0 (xpX a b o)))) δ) δ
def xiX (a b o:LA):Option (LA):=xnh a b o none some
theorem xFm (a b o:LA):Enc (fun (p:LA)=>((AV.list 1 p):AV)) (xiX a b o) (XF Tryz.prog xjx Tryz.f110 (Tryz.f110.body.getD .skip) [AV.list 1 a,AV.list 1 b,AV.list 2 o]):=by
 refine eV (xnh a b o none (fun (p:LA)=>some ((AV.list 1 p):AV))) (by kernel_rfl) ?_;unfold xiX xnh;repeat' first|exact eN|exact eS rfl|apply eB
def xvM:LA→Option (Bool×AV):=ocOf (sCons (sList 1 pAny) (sCons (sList 1 pAny) (sCons (sList 2 pAny) sNil))) fun (a,(b,(o,_)))=>((xiX a b o).isSome,(AV.list 1 ((xiX a b o).getD [])))
theorem xFn:OcOk Tryz.prog ITryz 110 (xvM):=xaN fun f h g=>by
 obtain ⟨a,⟨b,⟨o,_⟩⟩⟩:=f
 obtain ⟨c,e⟩:=Prod.mk.inj g
 refine xaH (p:=xjx.pin) (xaL mxTryz (inv0Ok Tryz.prog _) rfl xzA Tryz.func110 rfl (by kernel_rfl) xvX ((xFm _ _ _ _ (xab (d:=[]) c)).trans ?_))
 exact congrArg some e
def xFh:Env:=xAP.with 110 xvM
theorem xEA:OrcOk Tryz.prog ITryz xFh:=xwA.with xFn
def xoL (R:LA→LA→Option (LA)):LA→Option (Bool×AV):=ocOf (sCons (sList 1 pAny) (sCons (sList 2 pAny) sNil)) fun (l,(o,_))=>((R l o).isSome,AV.list 1 ((R l o).getD []))
def xkT (R:LA→LA→Option (LA)):Env:=(xFh.with 86 (xoL R)).fn 34 0 (lsOf []) (lpsOf [])
def xn3 (R:LA→LA→Option (LA)):Prop:=OcOk Tryz.prog ITryz 86 (xoL R)
theorem xBr (R:LA→LA→Option (LA)) (a:xn3 R):OrcOk Tryz.prog (ITryz.at 0) (xkT R):=(xEA.with a).fn
theorem xyw (R:LA→LA→Option (LA)):LoOk Tryz.prog (ITryz.at (xkT R).pin) (xkT R) (Tryz.f86.body.getD .skip):=xaq (by kernel_rfl)
def xk9 (l:LA):=decide (0≤i64.wrap ((↑l.length:Int).tdiv 2))&&decide (i64.wrap ((↑l.length:Int).tdiv 2)≤(↑l.length:Int))
def xhj (l:LA):Nat:=0+((l.getD 0 .top).cells.getD 0 .top).toList.length
def xkQ (R:LA→LA→Option (LA)) (l o:LA):Option (LA):=R (List.take (l.length - (i64.wrap ((↑l.length:Int).tdiv 2)).toNat) (List.drop (i64.wrap ((↑l.length:Int).tdiv 2)).toNat l)) o
def xkX (R:LA→LA→Option (LA)) (l o:LA):Option (LA):=xiX ((R (List.take ((i64.wrap ((↑l.length:Int).tdiv 2)).toNat - 0) (List.drop 0 l)) o).getD []) ((xkQ R l o).getD []) o
def xgO {T:Type} (R:LA→LA→Option (LA)) (l o:LA) (δ:T) (κ:LA→T):T:=br ((↑l.length:Int)==0) (κ ([])) (br ((↑l.length:Int)==1) (br (decide (0<(↑l.length:Int))) (br (decide (0<l.length)&&hasSh1 (Sh.list 3) ((l.getD 0 .top).cells.getD 0 .top)) (br (decide (xhj l*32≤140737488355328)&&decide (xhj l≤4611686018427387904)) (br (decide (0+xhj l≤([]++((l.getD 0 .top).cells.getD 0 .top).toList).length)&&true&&true&&true) (κ ([AV.list 3 (List.take (xhj l) (List.drop 0 ([]++((l.getD 0 .top).cells.getD 0 .top).toList)))])) δ) δ) δ) δ) (br (xk9 l&&true) (br ((R (List.take ((i64.wrap ((↑l.length:Int).tdiv 2)).toNat - 0) (List.drop 0 l)) o).isSome) (br (xk9 l) (br ((xkQ R l o).isSome) (br ((xkX R l o).isSome) (κ ((xkX R l o).getD [])) δ) δ) δ) δ) δ))
def xdr (R:LA→LA→Option (LA)) (l o:LA):Option (LA):=xgO R l o none some
theorem xGD (R:LA→LA→Option (LA)) (l o:LA):Enc (fun (p:LA)=>((AV.list 1 p):AV)) (xdr R l o) (XF Tryz.prog (xkT R) Tryz.f86 (Tryz.f86.body.getD .skip) [AV.list 1 l,AV.list 2 o]):=by
 refine eV (xgO R l o none (fun (p:LA)=>some ((AV.list 1 p):AV))) (by kernel_rfl) ?_;unfold xdr xgO;repeat' first|exact eN|exact eS rfl|apply eB
def xG6 (R:LA→LA→Option (LA)):LA→Option (Bool×AV):=ocOf (sCons (sList 1 pAny) (sCons (sList 2 pAny) sNil)) fun (l,(o,_))=>((xdr R l o).isSome,(AV.list 1 ((xdr R l o).getD [])))
theorem xGR (R:LA→LA→Option (LA)) (c:xn3 R):OcOk Tryz.prog ITryz 86 (xG6 R):=xaN fun e g f=>by
 obtain ⟨l,⟨o,_⟩⟩:=e
 obtain ⟨a,b⟩:=Prod.mk.inj f
 refine xaH (p:=(xkT R).pin) (xaL mxTryz (inv0Ok Tryz.prog _) rfl (xBr R c) Tryz.func86 rfl (by kernel_rfl) (xyw R) ((xGD R _ _ _ (xab (d:=[]) a)).trans ?_))
 exact congrArg some b
def xdl:Nat→LA→LA→Option (LA)
 | 0=>fun _ _=>none
 | fu_+1=>fun l o=>xdr (xdl fu_) l o
theorem xtC:∀ n,xn3 (xdl n)
 | 0=>xaN fun _ _ h=>absurd (Prod.mk.inj h).1 Bool.false_ne_true
 | fu_+1=>fun a r h=>xGR (xdl fu_) (xtC fu_) a r h
def xFL:Env:=xFh.with 86 (xoL (xdl 1000))
theorem xDB:OrcOk Tryz.prog ITryz xFL:=xEA.with (xtC _)
def xlL:Env:=xFL.fn 5 0 (lsOf []) (lpsOf [])
theorem xCT:OrcOk Tryz.prog (ITryz.at 0) xlL:=xDB.fn
theorem xzy:LoOk Tryz.prog (ITryz.at xlL.pin) xlL (Tryz.f60.body.getD .skip):=xaq (by kernel_rfl)
def xp2 {T:Type} (l:LA) (δ:T) (κ:LA→T):T:=br ((xdl 1000 l []).isSome) (κ ((xdl 1000 l []).getD [])) δ
def xiB (l:LA):Option (LA):=xp2 l none some
theorem xII (l:LA):Enc (fun (p:LA)=>((AV.list 1 p):AV)) (xiB l) (XF Tryz.prog xlL Tryz.f60 (Tryz.f60.body.getD .skip) [AV.list 1 l]):=by
 refine eV (xp2 l none (fun (p:LA)=>some ((AV.list 1 p):AV))) (by kernel_rfl) ?_;unfold xiB xp2;repeat' first|exact eN|exact eS rfl|apply eB
def xAu:LA→Option (Bool×AV):=ocOf (sCons (sList 1 pAny) sNil) fun (l,_)=>((xiB l).isSome,(AV.list 1 ((xiB l).getD [])))
theorem xIb:OcOk Tryz.prog ITryz 60 (xAu):=xaN fun c f e=>by
 obtain ⟨l,_⟩:=c
 obtain ⟨a,b⟩:=Prod.mk.inj e
 refine xaH (p:=xlL.pin) (xaL mxTryz (inv0Ok Tryz.prog _) rfl xCT Tryz.func60 rfl (by kernel_rfl) xzy ((xII _ _ (xab (d:=[]) a)).trans ?_))
 exact congrArg some b
def xAG:Env:=xFL.with 60 xAu
theorem xwW:OrcOk Tryz.prog ITryz xAG:=xDB.with xIb
def xgj:Env:=xAG.fn 38 0 (lsOf []) (lpsOf [])
theorem xw5:OrcOk Tryz.prog (ITryz.at 0) xgj:=xwW.fn
theorem xs8:LoOk Tryz.prog (ITryz.at xgj.pin) xgj (loopAt Tryz.f29 0):=xaq (by kernel_rfl)
def xf0 (a:LA) (i:Int):=decide (i.toNat<a.length)&&hasSh1 (Sh.list 3) ((a.getD i.toNat .top).cells.getD 0 .top)
def xf6 (a:LA) (i:Int):=decide (0≤i)&&decide (i<a.length)
def xiw (a:LA) (i:Int):=xko ((a.getD (i64.wrap (i - 1)).toNat .top).cells.getD 0 .top).toList ((a.getD i.toNat .top).cells.getD 0 .top).toList
def xfj {T:Type} (b:LA) (a:Nat) (i:Int) (c:LA) (δ:T) (κl:(Nat×Int×LA)→T) (κr:(Nat×LA)→T):T:=br (decide (i<b.length)) (br (i==0) (br (xf6 b i) (br (xf0 b i) (br (a==c.length&&(decide ((a+1)*24≤140737488355328)&&decide (a+1≤4611686018427387904))) (κl (a+1,i64.wrap (i+1),c++[AV.list 3 ((b.getD i.toNat .top).cells.getD 0 .top).toList])) δ) δ) δ) (br (decide (0≤i64.wrap (i - 1))&&decide (i64.wrap (i - 1)<(↑b.length:Int))) (br (decide ((i64.wrap (i - 1)).toNat<b.length)&&hasSh1 (Sh.list 3) ((b.getD (i64.wrap (i - 1)).toNat .top).cells.getD 0 .top)) (br (xf6 b i) (br (xf0 b i) (br ((xiw b i).isSome) (br (!(xiw b i).getD false) (br (xf6 b i) (br (xf0 b i) (br (a==c.length&&(decide ((a+1)*24≤140737488355328)&&decide (a+1≤4611686018427387904))) (κl (a+1,i64.wrap (i+1),c++[AV.list 3 ((b.getD i.toNat .top).cells.getD 0 .top).toList])) δ) δ) δ) (κl (a,i64.wrap (i+1),c))) δ) δ) δ) δ) δ)) (κr (a,c))
def xbq (c:LA):(Nat×Int×LA)→Option ((Nat×Int×LA)⊕(Nat×LA)):=fun (b,i,a)=>xfj c b i a none (fun s=>some (.inl s)) (fun p=>some (.inr p))
def xfh (c:LA):(Nat×Int×LA)→LA×List Box:=fun (b,i,a)=>([AV.list 1 c,AV.osl 0 0 0 b,AV.int .i64 i],[⟨0,1,40,a,false,true⟩])
def xeh (a:LA):(Nat×LA)→LR:=fun p=>(.leaf (.exit 0) [AV.osl 0 0 0 p.1] [⟨0,1,40,p.2,false,true⟩])
abbrev xyt (a:LA) (H:List Box):=XR Tryz.prog xgj [3,4,5] [4] [(4,1,40)] (loopAt Tryz.f29 0) a H
theorem xyy (a:LA) (s:Nat×Int×LA):Enc (encR (xfh a) (xeh a)) (xbq a s) (xyt (xfh a s).1 (xfh a s).2):=by
 obtain ⟨c,i,b⟩:=s
 refine eV (xfj a c i b none (fun s=>some (encR (xfh a) (xeh a) (.inl s))) (fun p=>some (encR (xfh a) (xeh a) (.inr p)))) (by kernel_rfl) ?_;unfold xbq xfj;repeat' first|exact eN|exact eS rfl|apply eB
def xqv:Lp:=lpOf [3,4,5] [4] [(4,1,40)] (pCons (pList 1 pAny) (pCons (pOsl 0 0 0) (pCons (pInt .i64) pNil))) (pCons (pBox 0 1 40 false true pAny) pNil) fun (c,(b,(i,_))) (a,_)=>((Iter (xbq c) (b,i,a)).isSome,xeh c ((Iter (xbq c) (b,i,a)).getD (0,[])))
theorem xwd:LoopOk Tryz.prog (ITryz.at xgj.pin) xgj.nt (loopAt Tryz.f29 0) xqv:=xaY fun e f h g=>by
 obtain ⟨a,⟨c,⟨i,_⟩⟩⟩:=e
 obtain ⟨b,_⟩:=f
 obtain ⟨d,rfl⟩:=Prod.mk.inj g
 exact xaG mxTryz (inv0Ok Tryz.prog _) rfl xw5 xs8 (xfh a) (xeh a) (fun p=>by simp only [xeh,LR.eval];first|(simp;done)|(repeat' split<;>simp)) (xyy a) (s:=(c,i,b)) (xab d)
def xij:Env:=xAG.fn 38 0 (lsOf []) (lpsOf [(4,xqv)])
theorem xw0:OrcOk Tryz.prog (ITryz.at 0) xij:=xwW.fn
theorem xuU:LoOk Tryz.prog (ITryz.at xij.pin) xij (Tryz.f29.body.getD .skip):=xaP (ls:=[loopAt Tryz.f29 0]) (by kernel_rfl) (lkC xwd lkN)
def xn2 (l:LA):=(Iter (xbq ((xiB l).getD [])) (0,0,[])).getD (0,[])
def xnQ (l:LA):=(xn2 l).snd
def xnU (l:LA):=(xn2 l).fst
def xlr {T:Type} (l:LA) (δ:T) (κ:LA→T):T:=br ((xiB l).isSome) (br ((Iter (xbq ((xiB l).getD [])) (0,0,[])).isSome) (br (decide (0+xnU l≤(xnQ l).length)&&true) (κ (List.take (xnU l) (List.drop 0 (xnQ l)))) δ) δ) δ
def xg7 (l:LA):Option (LA):=xlr l none some
theorem xCs (l:LA):Enc (fun (p:LA)=>((AV.list 1 p):AV)) (xg7 l) (XF Tryz.prog xij Tryz.f29 (Tryz.f29.body.getD .skip) [AV.list 1 l]):=by
 refine eV (xlr l none (fun (p:LA)=>some ((AV.list 1 p):AV))) (by kernel_rfl) ?_;unfold xg7 xlr;repeat' first|exact eN|exact eS rfl|apply eB
def xtD:LA→Option (Bool×AV):=ocOf (sCons (sList 1 pAny) sNil) fun (l,_)=>((xg7 l).isSome,(AV.list 1 ((xg7 l).getD [])))
theorem xCp:OcOk Tryz.prog ITryz 29 (xtD):=xaN fun c f e=>by
 obtain ⟨l,_⟩:=c
 obtain ⟨a,b⟩:=Prod.mk.inj e
 refine xaH (p:=xij.pin) (xaL mxTryz (inv0Ok Tryz.prog _) rfl xw0 Tryz.func29 rfl (by kernel_rfl) xuU ((xCs _ _ (xab (d:=[]) a)).trans ?_))
 exact congrArg some b
def xAO:Env:=xAG.with 29 xtD
theorem xwE:OrcOk Tryz.prog ITryz xAO:=xwW.with xCp
def xjw:Env:=xAO.fn 27 0 (lsOf []) (lpsOf [])
theorem xCY:OrcOk Tryz.prog (ITryz.at 0) xjw:=xwE.fn
theorem xwL:LoOk Tryz.prog (ITryz.at xjw.pin) xjw (loopAt Tryz.f74 0):=xaq (by kernel_rfl)
def xkf {T:Type} (l:LA) (a:Nat) (i:Int) (b:LA) (δ:T) (κl:(Nat×Int×LA)→T) (κr:(Nat×LA)→T):T:=br (decide (i<l.length)) (br (decide (0≤i)&&decide (i<l.length)) (br (decide (i.toNat<l.length)&&((l.getD i.toNat .top).cells.length==3&&hasShs [Sh.int .i64,Sh.int .i64] (l.getD i.toNat .top).cells 1)) (br (xdT ((l.getD i.toNat .top).cells.getD 1 .top).toInt ((l.getD i.toNat .top).cells.getD 2 .top).toInt) (br (decide (0≤i)&&decide (i<l.length)) (br (decide (i.toNat<l.length)&&hasSh1 (Sh.list 3) ((l.getD i.toNat .top).cells.getD 0 .top)) (br (a==b.length&&(decide ((a+1)*24≤140737488355328)&&decide (a+1≤4611686018427387904))) (κl (a+1,i64.wrap (i+1),b++[AV.list 3 ((l.getD i.toNat .top).cells.getD 0 .top).toList])) δ) δ) δ) (κl (a,i64.wrap (i+1),b))) δ) δ) (κr (a,b))
def xc0 (l:LA):(Nat×Int×LA)→Option ((Nat×Int×LA)⊕(Nat×LA)):=fun (b,i,a)=>xkf l b i a none (fun s=>some (.inl s)) (fun p=>some (.inr p))
def xhK (l:LA):(Nat×Int×LA)→LA×List Box:=fun (b,i,a)=>([AV.list 3 l,AV.osl 0 0 0 b,AV.int .i64 i],[⟨0,1,40,a,false,true⟩])
def xgn (l:LA):(Nat×LA)→LR:=fun p=>(.leaf (.exit 0) [AV.osl 0 0 0 p.1] [⟨0,1,40,p.2,false,true⟩])
abbrev xDf (a:LA) (H:List Box):=XR Tryz.prog xjw [0,3,4] [3] [(3,1,40)] (loopAt Tryz.f74 0) a H
theorem xEn (l:LA) (s:Nat×Int×LA):Enc (encR (xhK l) (xgn l)) (xc0 l s) (xDf (xhK l s).1 (xhK l s).2):=by
 obtain ⟨b,i,a⟩:=s
 refine eV (xkf l b i a none (fun s=>some (encR (xhK l) (xgn l) (.inl s))) (fun p=>some (encR (xhK l) (xgn l) (.inr p)))) (by kernel_rfl) ?_;unfold xc0 xkf;repeat' first|exact eN|exact eS rfl|apply eB
def xtM:Lp:=lpOf [0,3,4] [3] [(3,1,40)] (pCons (pList 3 pAny) (pCons (pOsl 0 0 0) (pCons (pInt .i64) pNil))) (pCons (pBox 0 1 40 false true pAny) pNil) fun (l,(b,(i,_))) (a,_)=>((Iter (xc0 l) (b,i,a)).isSome,xgn l ((Iter (xc0 l) (b,i,a)).getD (0,[])))
theorem xBk:LoopOk Tryz.prog (ITryz.at xjw.pin) xjw.nt (loopAt Tryz.f74 0) xtM:=xaY fun d e g f=>by
 obtain ⟨l,⟨b,⟨i,_⟩⟩⟩:=d
 obtain ⟨a,_⟩:=e
 obtain ⟨c,rfl⟩:=Prod.mk.inj f
 exact xaG mxTryz (inv0Ok Tryz.prog _) rfl xCY xwL (xhK l) (xgn l) (fun p=>by simp only [xgn,LR.eval];first|(simp;done)|(repeat' split<;>simp)) (xEn l) (s:=(b,i,a)) (xab c)
def xlN:Env:=xAO.fn 27 0 (lsOf []) (lpsOf [(3,xtM)])
theorem xCV:OrcOk Tryz.prog (ITryz.at 0) xlN:=xwE.fn
theorem xzF:LoOk Tryz.prog (ITryz.at xlN.pin) xlN (Tryz.f74.body.getD .skip):=xaP (ls:=[loopAt Tryz.f74 0]) (by kernel_rfl) (lkC xBk lkN)
def xsh (l:LA):=(Iter (xc0 l) (0,0,[])).getD (0,[])
def xst (l:LA):=(xsh l).fst
def xsp (l:LA):=(xsh l).snd
def xsk (l:LA):=xg7 (List.take (xst l) (List.drop 0 (xsp l)))
def xqn {T:Type} (l:LA) (δ:T) (κ:LA→T):T:=br ((Iter (xc0 l) (0,0,[])).isSome) (br (decide (0+xst l≤(xsp l).length)&&true) (br ((xsk l).isSome) (κ ((xsk l).getD [])) δ) δ) δ
def xkc (l:LA):Option (LA):=xqn l none some
theorem xIm (l:LA):Enc (fun (p:LA)=>((AV.list 1 p):AV)) (xkc l) (XF Tryz.prog xlN Tryz.f74 (Tryz.f74.body.getD .skip) [AV.list 3 l]):=by
 refine eV (xqn l none (fun (p:LA)=>some ((AV.list 1 p):AV))) (by kernel_rfl) ?_;unfold xkc xqn;repeat' first|exact eN|exact eS rfl|apply eB
def xzu:LA→Option (Bool×AV):=ocOf (sCons (sList 3 pAny) sNil) fun (l,_)=>((xkc l).isSome,(AV.list 1 ((xkc l).getD [])))
theorem xIf:OcOk Tryz.prog ITryz 74 (xzu):=xaN fun c f e=>by
 obtain ⟨l,_⟩:=c
 obtain ⟨a,b⟩:=Prod.mk.inj e
 refine xaH (p:=xlN.pin) (xaL mxTryz (inv0Ok Tryz.prog _) rfl xCV Tryz.func74 rfl (by kernel_rfl) xzF ((xIm _ _ (xab (d:=[]) a)).trans ?_))
 exact congrArg some b
def xJ2:Env:=xAO.with 74 xzu
theorem xKP:OrcOk Tryz.prog ITryz xJ2:=xwE.with xIf
abbrev EKR1:Env:=xJ2
theorem xJW:OrcOk Tryz.prog ITryz EKR1:=xKP
end Go.Sim.M
end
noncomputable section
set_option maxRecDepth 100000
namespace Go.Sim.M
open Go.IntKind (i64 u64 u8)
open Go.RowKit Go.Proofs
def xlM:Env:=EKR1.fn 51 1 (lsOf []) (lpsOf [])
theorem xCr:OrcOk Tryz.prog (ITryz.at 1) xlM:=xJW.fn
theorem xzR:LoOk Tryz.prog (ITryz.at xlM.pin) xlM (Tryz.f78.body.getD .skip):=xaq (by kernel_rfl)
def xfG (k:Nat) (a:LA):=(List.take ((i64.wrap ((↑k:Int) - 1)).toNat - 0) (List.drop 0 a)).length
def xov (k:Nat) (a:LA):=decide (0+(i64.wrap ((↑k:Int) - 1)).toNat<a.length)
def xlE (k:Nat) (a:LA):=((a.getD (0+(i64.wrap ((↑k:Int) - 1)).toNat) .top).cells.getD 1 .top).toInt
def xoD (k:Nat):=decide (0≤i64.wrap ((↑k:Int) - 1))
def xlC (k:Nat):=xoD k&&decide (i64.wrap ((↑k:Int) - 1)<(↑k:Int))
def xoz (k:Nat) (a:LA):=xov k a&&hasSh1 (Sh.int .i64) ((a.getD (0+(i64.wrap ((↑k:Int) - 1)).toNat) .top).cells.getD 1 .top)
def xmm {T:Type} (k:Nat) (b c:Int) (a:LA) (δ:T) (κ:Bool×(Nat×LA×LA)×(Nat×LA)→T):T:=br (decide ((↑k:Int)>0)) (br (xlC k) (br (xoz k a) (br (decide (xlE k a≥b)) (br (xoD k&&decide (i64.wrap ((↑k:Int) - 1)≤(↑k:Int))&&true) (br (decide (0+((i64.wrap ((↑k:Int) - 1)).toNat - 0)≤a.length)&&(decide (xfG k a*16≤140737488355328)&&decide (xfG k a≤4611686018427387904))) (br (xlC k) (br (xov k a&&hasSh1 (Sh.int .i64) ((a.getD (0+(i64.wrap ((↑k:Int) - 1)).toNat) .top).cells.getD 0 .top)) (br (xlC k) (br (xoz k a) (br (xfG k a==xfG k a&&(decide ((xfG k a+1)*16≤140737488355328)&&decide (xfG k a+1≤4611686018427387904))) (κ (true,(xfG k a+1,a,List.take ((i64.wrap ((↑k:Int) - 1)).toNat - 0) (List.drop 0 a)++[AV.agg [AV.int .i64 ((a.getD (0+(i64.wrap ((↑k:Int) - 1)).toNat) .top).cells.getD 0 .top).toInt,AV.int .i64 (if c>xlE k a then c else xlE k a)]]),(0,[]))) δ) δ) δ) δ) δ) δ) δ) (br (k==a.length&&(decide ((k+1)*16≤140737488355328)&&decide (k+1≤4611686018427387904))) (κ (false,(0,[],[]),(k+1,a++[AV.agg [AV.int .i64 b,AV.int .i64 c]]))) δ)) δ) δ) (br (k==a.length&&(decide ((k+1)*16≤140737488355328)&&decide (k+1≤4611686018427387904))) (κ (false,(0,[],[]),(k+1,a++[AV.agg [AV.int .i64 b,AV.int .i64 c]]))) δ)
def xdh (k:Nat) (a b:Int) (c:LA):Option (Bool×(Nat×LA×LA)×(Nat×LA)):=xmm k a b c none some
theorem xH9 (k:Nat) (a b:Int) (xs:LA):Enc (fun (p:Bool×(Nat×LA×LA)×(Nat×LA))=>((br p.1 ((AV.osl 1 0 0 p.2.1.1,([⟨0,2,31,p.2.1.2.1,false,true⟩,⟨0,2,31,p.2.1.2.2,false,true⟩]:List Box))) ((AV.osl 0 1 0 p.2.2.1,([⟨1,2,31,p.2.2.2,false,true⟩]:List Box)))):(AV×List Box))) (xdh k a b xs) (XFM Tryz.prog xlM Tryz.f78 (Tryz.f78.body.getD .skip) [AV.osl (0:Id) 0 0 k,AV.agg [AV.int .i64 a,AV.int .i64 b]] [{ ver:=0,sz:=2,ty:=(31:TypeId),xs:=xs,frz:=false,pm:=true }]):=by
 refine eV (xmm k a b xs none (fun (p:Bool×(Nat×LA×LA)×(Nat×LA))=>some ((br p.1 ((AV.osl 1 0 0 p.2.1.1,([⟨0,2,31,p.2.1.2.1,false,true⟩,⟨0,2,31,p.2.1.2.2,false,true⟩]:List Box))) ((AV.osl 0 1 0 p.2.2.1,([⟨1,2,31,p.2.2.2,false,true⟩]:List Box)))):(AV×List Box)))) (by kernel_rfl) ?_;unfold xdh xmm;repeat' first|exact eN|exact eS rfl|apply eB
def xzE:LA→List Box→Option (Bool×AV×List Box):=omOf (sCons (sEq (pOsl 0 0 0)) (sCons (sAgg (sCons (sEq (pInt .i64)) (sCons (sEq (pInt .i64)) sNil))) sNil)) (pCons (pBox 0 2 (31:TypeId) false true pAny) pNil) fun (k,((a,(b,_)),_)) (c,_)=>((xdh k a b c).isSome,(AV.osl 1 0 0 (br ((xdh k a b c).getD (false,(0,[],[]),(0,[]))).1 ((xdh k a b c).getD (false,(0,[],[]),(0,[]))).2.1.1 ((xdh k a b c).getD (false,(0,[],[]),(0,[]))).2.2.1),
 ([⟨2,2,31,[],false,true⟩,⟨0,2,31,br ((xdh k a b c).getD (false,(0,[],[]),(0,[]))).1 ((xdh k a b c).getD (false,(0,[],[]),(0,[]))).2.1.2.2 ((xdh k a b c).getD (false,(0,[],[]),(0,[]))).2.2.2,false,true⟩]:List Box)))
theorem xIn:OmOk Tryz.prog ITryz 78 (xzE):=xfQ fun e f j h g=>by
 obtain ⟨k,⟨⟨c,⟨i,_⟩⟩,_⟩⟩:=e
 obtain ⟨l,_⟩:=f
 obtain ⟨b,a⟩:=Prod.mk.inj g
 have hx:=xH9 _ _ _ _ _ (xab (d:=(false,(0,[],[]),(0,[]))) b)
 revert hx a
 generalize ((xdh _ _ _ _).getD (false,(0,[],[]),(0,[])))=p
 intro a hx
 obtain ⟨rfl,rfl⟩:=Prod.mk.inj a
 obtain ⟨t,⟨m,n,o⟩,q,r⟩:=p
 have hg:GoodM Tryz.prog ITryz 78 _ _ _ _:=xdv (p:=xlM.pin) (xdZ mxTryz (inv0Ok Tryz.prog _) rfl xCr rfl Tryz.func78 rfl (by kernel_rfl) xzR hx)
 cases t
 · exact GoodM.move0 rfl (by decide) hg
 · exact GoodM.drop0 rfl (by decide) hg
def xOR:Env:=EKR1.withM 78 xzE
theorem xOv:OrcOk Tryz.prog ITryz xOR:=xJW.withM xIn
abbrev EKJ:Env:=xOR
theorem xDv:OrcOk Tryz.prog ITryz EKJ:=xOv
end Go.Sim.M
end
noncomputable section
set_option maxRecDepth 100000
namespace Go.Sim.M
open Go.IntKind (i64 u64 u8)
open Go.RowKit Go.Proofs
def xhA:Env:=EKJ.fn 58 0 (lsOf []) (lpsOf [])
theorem xAf:OrcOk Tryz.prog (ITryz.at 0) xhA:=xDv.fn
theorem xuM:LoOk Tryz.prog (ITryz.at xhA.pin) xhA (loopAt Tryz.f57 0):=xaq (by kernel_rfl)
def xgC {T:Type} (l:LA) (n:Int) (a:Nat) (i:Int) (b:LA) (δ:T) (κl:(Nat×Int×LA)→T) (κr:(Nat×Int×LA)→T):T:=br (decide (i<l.length)) (br (decide (0≤i)&&decide (i<l.length)) (br (decide (i.toNat<l.length)&&hasSh1 (Sh.int .i64) ((l.getD i.toNat .top).cells.getD 0 .top)) (br (decide (((l.getD i.toNat .top).cells.getD 0 .top).toInt<n)) (br (decide (0≤i)&&decide (i<l.length)) (br (decide (i.toNat<l.length)&&hasSh1 (Sh.int .i64) ((l.getD i.toNat .top).cells.getD 0 .top)) (br (a==b.length&&(decide ((a+1)*8≤140737488355328)&&decide (a+1≤4611686018427387904))) (κl (a+1,i64.wrap (i+1),b++[AV.int .i64 ((l.getD i.toNat .top).cells.getD 0 .top).toInt])) δ) δ) δ) (κr (a,i,b))) δ) δ) (κr (a,i,b))
def xbT (l:LA) (n:Int):(Nat×Int×LA)→Option ((Nat×Int×LA)⊕(Nat×Int×LA)):=fun (b,i,a)=>xgC l n b i a none (fun s=>some (.inl s)) (fun p=>some (.inr p))
def xgo (l:LA) (n:Int):(Nat×Int×LA)→LA×List Box:=fun (b,i,a)=>([AV.list 1 l,AV.int .i64 n,AV.osl 0 0 0 b,AV.int .i64 i],[⟨0,1,3,a,false,true⟩])
def xfq (l:LA) (n:Int):(Nat×Int×LA)→LR:=fun p=>(.leaf (.exit 0) [AV.list 1 l,AV.int .i64 n,AV.osl 0 0 0 p.1,AV.int .i64 p.2.1] [⟨0,1,3,p.2.2,false,true⟩])
abbrev xAx (a:LA) (H:List Box):=XR Tryz.prog xhA [0,1,5,6] [0,1,5,6] [(5,1,3)] (loopAt Tryz.f57 0) a H
theorem xBe (l:LA) (n:Int) (s:Nat×Int×LA):Enc (encR (xgo l n) (xfq l n)) (xbT l n s) (xAx (xgo l n s).1 (xgo l n s).2):=by
 obtain ⟨b,i,a⟩:=s
 refine eV (xgC l n b i a none (fun s=>some (encR (xgo l n) (xfq l n) (.inl s))) (fun p=>some (encR (xgo l n) (xfq l n) (.inr p)))) (by kernel_rfl) ?_;unfold xbT xgC;repeat' first|exact eN|exact eS rfl|apply eB
def xmx:Lp:=lpOf [0,1,5,6] [0,1,5,6] [(5,1,3)] (pCons (pList 1 pAny) (pCons (pInt .i64) (pCons (pOsl 0 0 0) (pCons (pInt .i64) pNil)))) (pCons (pBox 0 1 3 false true pAny) pNil) fun (l,(n,(b,(i,_)))) (a,_)=>((Iter (xbT l n) (b,i,a)).isSome,xfq l n ((Iter (xbT l n) (b,i,a)).getD (0,0,[])))
theorem xyC:LoopOk Tryz.prog (ITryz.at xhA.pin) xhA.nt (loopAt Tryz.f57 0) xmx:=xaY fun d e g f=>by
 obtain ⟨l,⟨n,⟨b,⟨i,_⟩⟩⟩⟩:=d
 obtain ⟨a,_⟩:=e
 obtain ⟨c,rfl⟩:=Prod.mk.inj f
 exact xaG mxTryz (inv0Ok Tryz.prog _) rfl xAf xuM (xgo l n) (xfq l n) (fun p=>by simp only [xfq,LR.eval];first|(simp;done)|(repeat' split<;>simp)) (xBe l n) (s:=(b,i,a)) (xab c)
def xhL:Env:=EKJ.fn 58 0 (lsOf []) (lpsOf [(3,xmx)])
theorem xzM:OrcOk Tryz.prog (ITryz.at 0) xhL:=xDv.fn
theorem xvp:LoOk Tryz.prog (ITryz.at xhL.pin) xhL (loopAt Tryz.f57 1):=xaq (by kernel_rfl)
def xif {T:Type} (l:LA) (a:Nat) (i:Int) (b:LA) (δ:T) (κl:(Nat×Int×LA)→T) (κr:(Nat×LA)→T):T:=br (decide (i<l.length)) (br (decide (0≤i)&&decide (i<l.length)) (br (decide (i.toNat<l.length)&&hasSh1 (Sh.int .i64) ((l.getD i.toNat .top).cells.getD 0 .top)) (br (a==b.length&&(decide ((a+1)*8≤140737488355328)&&decide (a+1≤4611686018427387904))) (κl (a+1,i64.wrap (i+1),b++[AV.int .i64 ((l.getD i.toNat .top).cells.getD 0 .top).toInt])) δ) δ) δ) (κr (a,b))
def xbR (l:LA):(Nat×Int×LA)→Option ((Nat×Int×LA)⊕(Nat×LA)):=fun (b,i,a)=>xif l b i a none (fun s=>some (.inl s)) (fun p=>some (.inr p))
def xgp (l:LA):(Nat×Int×LA)→LA×List Box:=fun (b,i,a)=>([AV.list 1 l,AV.osl 0 0 0 b,AV.int .i64 i],[⟨0,1,3,a,false,true⟩])
def xfd (l:LA):(Nat×LA)→LR:=fun p=>(.leaf (.exit 2) [AV.osl 0 0 0 p.1] [⟨0,1,3,p.2,false,true⟩])
abbrev xAW (a:LA) (H:List Box):=XR Tryz.prog xhL [0,5,6] [5] [(5,1,3)] (loopAt Tryz.f57 1) a H
theorem xA8 (l:LA) (s:Nat×Int×LA):Enc (encR (xgp l) (xfd l)) (xbR l s) (xAW (xgp l s).1 (xgp l s).2):=by
 obtain ⟨b,i,a⟩:=s
 refine eV (xif l b i a none (fun s=>some (encR (xgp l) (xfd l) (.inl s))) (fun p=>some (encR (xgp l) (xfd l) (.inr p)))) (by kernel_rfl) ?_;unfold xbR xif;repeat' first|exact eN|exact eS rfl|apply eB
def xr7:Lp:=lpOf [0,5,6] [5] [(5,1,3)] (pCons (pList 1 pAny) (pCons (pOsl 0 0 0) (pCons (pInt .i64) pNil))) (pCons (pBox 0 1 3 false true pAny) pNil) fun (l,(b,(i,_))) (a,_)=>((Iter (xbR l) (b,i,a)).isSome,xfd l ((Iter (xbR l) (b,i,a)).getD (0,[])))
theorem xyS:LoopOk Tryz.prog (ITryz.at xhL.pin) xhL.nt (loopAt Tryz.f57 1) xr7:=xaY fun d e g f=>by
 obtain ⟨l,⟨b,⟨i,_⟩⟩⟩:=d
 obtain ⟨a,_⟩:=e
 obtain ⟨c,rfl⟩:=Prod.mk.inj f
 exact xaG mxTryz (inv0Ok Tryz.prog _) rfl xzM xvp (xgp l) (xfd l) (fun p=>by simp only [xfd,LR.eval];first|(simp;done)|(repeat' split<;>simp)) (xA8 l) (s:=(b,i,a)) (xab c)
def xjC:Env:=EKJ.fn 58 0 (lsOf []) (lpsOf [(3,xmx),(8,xr7)])
theorem xze:OrcOk Tryz.prog (ITryz.at 0) xjC:=xDv.fn
theorem xwr:LoOk Tryz.prog (ITryz.at xjC.pin) xjC (Tryz.f57.body.getD .skip):=xaP (ls:=[loopAt Tryz.f57 0,loopAt Tryz.f57 1]) (by kernel_rfl) (lkC xyC (lkC xyS lkN))
def xiU (l:LA) (n:Int):=(Iter (xbT l n) (0,0,[])).getD (0,0,[])
def xhc (l:LA) (n:Int):=(xiU l n).fst
def xi3 (l:LA) (n:Int):=(xiU l n).snd
def xcx (l:LA) (n:Int):=(xi3 l n).fst
def xel (l:LA) (n:Int):=xhc l n+1
def xgx (l:LA) (n:Int):=(xi3 l n).snd
def xjS (l:LA) (n:Int):=Iter (xbR l) (xel l n,xcx l n,xgx l n++[AV.int .i64 n])
def xjJ (l:LA) (n:Int):=Iter (xbR l) (xhc l n,xcx l n,xgx l n)
def xi0 (l:LA) (n:Int):=xhc l n==(xgx l n).length
def xj2 (l:LA) (n:Int):=(xjS l n).getD (0,[])
def xj8 (l:LA) (n:Int):=(xjS l n).isSome
def xjA (l:LA) (n:Int):=(xjJ l n).getD (0,[])
def xf5 (l:LA) (n:Int):=(xj2 l n).fst
def xgc (l:LA) (n:Int):=(xj2 l n).snd
def xjO (l:LA) (n:Int):=(xjA l n).fst
def xjZ (l:LA) (n:Int):=(xjA l n).snd
def xnF {T:Type} (l:LA) (n:Int) (δ:T) (κ:LA→T):T:=br ((Iter (xbT l n) (0,0,[])).isSome) (br (xcx l n==(↑l.length:Int)) (br (xi0 l n&&(decide (xel l n*8≤140737488355328)&&decide (xel l n≤4611686018427387904))) (br (xj8 l n) (br (decide (0+xf5 l n≤(xgc l n).length)&&true) (κ (List.take (xf5 l n) (List.drop 0 (xgc l n)))) δ) δ) δ) (br (decide (0≤xcx l n)&&decide (xcx l n<l.length)) (br (decide ((xcx l n).toNat<l.length)&&hasSh1 (Sh.int .i64) ((l.getD (xcx l n).toNat .top).cells.getD 0 .top)) (br (decide (((l.getD (xcx l n).toNat .top).cells.getD 0 .top).toInt>n)) (br (xi0 l n&&(decide (xel l n*8≤140737488355328)&&decide (xel l n≤4611686018427387904))) (br (xj8 l n) (br (decide (0+xf5 l n≤(xgc l n).length)&&true) (κ (List.take (xf5 l n) (List.drop 0 (xgc l n)))) δ) δ) δ) (br ((xjJ l n).isSome) (br (decide (0+xjO l n≤(xjZ l n).length)&&true) (κ (List.take (xjO l n) (List.drop 0 (xjZ l n)))) δ) δ)) δ) δ)) δ
def xek (l:LA) (n:Int):Option (LA):=xnF l n none some
theorem xEV (l:LA) (n:Int):Enc (fun (p:LA)=>((AV.list 1 p):AV)) (xek l n) (XF Tryz.prog xjC Tryz.f57 (Tryz.f57.body.getD .skip) [AV.list 1 l,AV.int .i64 n]):=by
 refine eV (xnF l n none (fun (p:LA)=>some ((AV.list 1 p):AV))) (by kernel_rfl) ?_;unfold xek xnF;repeat' first|exact eN|exact eS rfl|apply eB
def xv9:LA→Option (Bool×AV):=ocOf (sCons (sList 1 pAny) (sCons (sEq (pInt .i64)) sNil)) fun (l,(n,_))=>((xek l n).isSome,(AV.list 1 ((xek l n).getD [])))
theorem xFQ:OcOk Tryz.prog ITryz 57 (xv9):=xaN fun c f e=>by
 obtain ⟨l,⟨n,_⟩⟩:=c
 obtain ⟨a,b⟩:=Prod.mk.inj e
 refine xaH (p:=xjC.pin) (xaL mxTryz (inv0Ok Tryz.prog _) rfl xze Tryz.func57 rfl (by kernel_rfl) xwr ((xEV _ _ _ (xab (d:=[]) a)).trans ?_))
 exact congrArg some b
def xMd:Env:=EKJ.with 57 xv9
theorem xM6:OrcOk Tryz.prog ITryz xMd:=xDv.with xFQ
abbrev xIs:Env:=xMd
theorem xGs:OrcOk Tryz.prog ITryz xIs:=xM6
def xm6:Env:=xIs.fn 28 1 (lsOf []) (lpsOf [])
theorem xEj:OrcOk Tryz.prog (ITryz.at 1) xm6:=xGs.fn
theorem xBj:LoOk Tryz.prog (ITryz.at xm6.pin) xm6 (Tryz.f90.body.getD .skip):=xaq (by kernel_rfl)
def xlP {T:Type} (k:Nat) (b n:Int) (a:LA) (δ:T) (κ:Bool×(Nat×LA)×(Nat×LA)→T):T:=br (decide ((↑k:Int)>0)) (br (decide (0≤i64.wrap ((↑k:Int) - 1))&&decide (i64.wrap ((↑k:Int) - 1)<(↑k:Int))) (br (decide (0+(i64.wrap ((↑k:Int) - 1)).toNat<a.length)&&hasSh1 (Sh.int .i64) ((a.getD (0+(i64.wrap ((↑k:Int) - 1)).toNat) .top).cells.getD 1 .top)) (br (((a.getD (0+(i64.wrap ((↑k:Int) - 1)).toNat) .top).cells.getD 1 .top).toInt==n) (κ (true,(k,a),(0,[]))) (br (k==a.length&&(decide ((k+1)*16≤140737488355328)&&decide (k+1≤4611686018427387904))) (κ (false,(0,[]),(k+1,a++[AV.agg [AV.int .i64 b,AV.int .i64 n]]))) δ)) δ) δ) (br (k==a.length&&(decide ((k+1)*16≤140737488355328)&&decide (k+1≤4611686018427387904))) (κ (false,(0,[]),(k+1,a++[AV.agg [AV.int .i64 b,AV.int .i64 n]]))) δ)
def xeu (k:Nat) (a n:Int) (b:LA):Option (Bool×(Nat×LA)×(Nat×LA)):=xlP k a n b none some
theorem xI4 (k:Nat) (a n:Int) (xs:LA):Enc (fun (p:Bool×(Nat×LA)×(Nat×LA))=>((br p.1 ((AV.osl 0 0 0 p.2.1.1,([⟨0,2,75,p.2.1.2,false,true⟩]:List Box))) ((AV.osl 0 1 0 p.2.2.1,([⟨1,2,75,p.2.2.2,false,true⟩]:List Box)))):(AV×List Box))) (xeu k a n xs) (XFM Tryz.prog xm6 Tryz.f90 (Tryz.f90.body.getD .skip) [AV.osl (0:Id) 0 0 k,AV.int .i64 a,AV.int .i64 n] [{ ver:=0,sz:=2,ty:=(75:TypeId),xs:=xs,frz:=false,pm:=true }]):=by
 refine eV (xlP k a n xs none (fun (p:Bool×(Nat×LA)×(Nat×LA))=>some ((br p.1 ((AV.osl 0 0 0 p.2.1.1,([⟨0,2,75,p.2.1.2,false,true⟩]:List Box))) ((AV.osl 0 1 0 p.2.2.1,([⟨1,2,75,p.2.2.2,false,true⟩]:List Box)))):(AV×List Box)))) (by kernel_rfl) ?_;unfold xeu xlP;repeat' first|exact eN|exact eS rfl|apply eB
def xBx:LA→List Box→Option (Bool×AV×List Box):=omOf (sCons (sEq (pOsl 0 0 0)) (sCons (sEq (pInt .i64)) (sCons (sEq (pInt .i64)) sNil))) (pCons (pBox 0 2 (75:TypeId) false true pAny) pNil) fun (k,(a,(n,_))) (b,_)=>((xeu k a n b).isSome,(AV.osl 0 1 0 (br ((xeu k a n b).getD (false,(0,[]),(0,[]))).1 ((xeu k a n b).getD (false,(0,[]),(0,[]))).2.1.1 ((xeu k a n b).getD (false,(0,[]),(0,[]))).2.2.1),([⟨1,2,75,(br ((xeu k a n b).getD (false,(0,[]),(0,[]))).1 ((xeu k a n b).getD (false,(0,[]),(0,[]))).2.1.2 ((xeu k a n b).getD (false,(0,[]),(0,[]))).2.2.2),false,true⟩]:List Box)))
theorem xJu:OmOk Tryz.prog ITryz 90 (xBx):=xfQ fun e f j i g=>by
 obtain ⟨k,⟨b,⟨n,_⟩⟩⟩:=e
 obtain ⟨h,_⟩:=f
 obtain ⟨c,a⟩:=Prod.mk.inj g
 have hx:=xI4 _ _ _ _ _ (xab (d:=(false,(0,[]),(0,[]))) c)
 revert hx a
 generalize ((xeu k b n h).getD (false,(0,[]),(0,[])))=p
 intro a hx
 obtain ⟨rfl,rfl⟩:=Prod.mk.inj a
 obtain ⟨t,⟨l,m⟩,o,q⟩:=p
 have hg:GoodM Tryz.prog ITryz 90 _ _ _ _:=xdv (p:=xm6.pin) (xdZ mxTryz (inv0Ok Tryz.prog _) rfl xEj rfl Tryz.func90 rfl (by kernel_rfl) xBj hx)
 cases t
 · exact hg
 · exact GoodM.bump1 rfl (by decide) hg
def xvE:Env:=xIs.withM 90 xBx
theorem xsb:OrcOk Tryz.prog ITryz xvE:=xGs.withM xJu
def xlS:Env:=xvE.fn 82 0 (lsOf []) (lpsOf [])
theorem xE4:OrcOk Tryz.prog (ITryz.at 0) xlS:=xsb.fn
theorem xzC:LoOk Tryz.prog (ITryz.at xlS.pin) xlS (loopAt Tryz.f66 0):=xaq (by kernel_rfl)
def xk3 (l:LA) (i:Int):=decide (0≤i)&&decide (i<l.length)
def xlD {T:Type} (l a:LA) (i:Int) (δ:T) (κl:(LA×Int)→T) (κr:(LA)→T):T:=br (decide (i<l.length)) (br (xk3 l i) (br (decide (i.toNat<l.length)&&((l.getD i.toNat .top).cells.length==3&&hasShs [Sh.int .i64,Sh.int .i64] (l.getD i.toNat .top).cells 0)) (br (xdT ((l.getD i.toNat .top).cells.getD 0 .top).toInt ((l.getD i.toNat .top).cells.getD 1 .top).toInt) (br (xk3 l i) (br (decide (i.toNat<l.length)&&hasSh1 (Sh.int .i64) ((l.getD i.toNat .top).cells.getD 0 .top)) (br ((xek a ((l.getD i.toNat .top).cells.getD 0 .top).toInt).isSome) (br (xk3 l i) (br (decide (i.toNat<l.length)&&hasSh1 (Sh.int .i64) ((l.getD i.toNat .top).cells.getD 1 .top)) (br ((xek ((xek a ((l.getD i.toNat .top).cells.getD 0 .top).toInt).getD []) ((l.getD i.toNat .top).cells.getD 1 .top).toInt).isSome) (κl ((xek ((xek a ((l.getD i.toNat .top).cells.getD 0 .top).toInt).getD []) ((l.getD i.toNat .top).cells.getD 1 .top).toInt).getD [],i64.wrap (i+1))) δ) δ) δ) δ) δ) δ) (κl (a,i64.wrap (i+1)))) δ) δ) (κr (a))
def xdC (l:LA):(LA×Int)→Option ((LA×Int)⊕(LA)):=fun (a,i)=>xlD l a i none (fun s=>some (.inl s)) (fun p=>some (.inr p))
def xjq (l:LA):(LA×Int)→LA×List Box:=fun (a,i)=>([AV.list 3 l,AV.list 1 a,AV.int .i64 i],[])
def xh2 (l:LA):(LA)→LR:=fun p=>(.leaf (.exit 0) [AV.list 3 l,AV.list 1 p] [])
abbrev xGP (a:LA) (H:List Box):=XR Tryz.prog xlS [0,3,4] [0,3] [(3,1,1073741824)] (loopAt Tryz.f66 0) a H
theorem xGY (l:LA) (s:LA×Int):Enc (encR (xjq l) (xh2 l)) (xdC l s) (xGP (xjq l s).1 (xjq l s).2):=by
 obtain ⟨a,i⟩:=s
 refine eV (xlD l a i none (fun s=>some (encR (xjq l) (xh2 l) (.inl s))) (fun p=>some (encR (xjq l) (xh2 l) (.inr p)))) (by kernel_rfl) ?_;unfold xdC xlD;repeat' first|exact eN|exact eS rfl|apply eB
def xnt:Lp:=lpOf [0,3,4] [0,3] [(3,1,1073741824)] (pCons (pList 3 pAny) (pCons (pList 1 pAny) (pCons (pInt .i64) pNil))) pNil fun (l,(a,(i,_))) _=>((Iter (xdC l) (a,i)).isSome,xh2 l ((Iter (xdC l) (a,i)).getD []))
theorem xDc:LoopOk Tryz.prog (ITryz.at xlS.pin) xlS.nt (loopAt Tryz.f66 0) xnt:=xaY fun b e f c=>by
 obtain ⟨l,⟨d,⟨i,_⟩⟩⟩:=b
 obtain ⟨a,rfl⟩:=Prod.mk.inj c
 exact xaG mxTryz (inv0Ok Tryz.prog _) rfl xE4 xzC (xjq l) (xh2 l) (fun p=>by simp only [xh2,LR.eval];first|(simp;done)|(repeat' split<;>simp)) (xGY l) (s:=(d,i)) (xab a)
def xlQ:Env:=xvE.fn 82 0 (lsOf []) (lpsOf [(3,xnt)])
theorem xFO:OrcOk Tryz.prog (ITryz.at 0) xlQ:=xsb.fn
theorem xy9:LoOk Tryz.prog (ITryz.at xlQ.pin) xlQ (loopAt Tryz.f66 2):=xaq (by kernel_rfl)
def xlI {T:Type} (l b:LA) (c:Nat) (k n i:Int) (a:LA) (δ:T) (κl:(Int×Int×LA)→T) (κr:(Int×LA)→T):T:=br (decide (i<l.length)) (br (decide (0≤i)&&decide (i<l.length)) (br (decide (i.toNat<l.length)&&((l.getD i.toNat .top).cells.length==3&&hasShs [Sh.int .i64,Sh.int .i64] (l.getD i.toNat .top).cells 0)) (br (decide (0≤k)&&decide (k<b.length)) (br (decide (k.toNat<b.length)&&hasSh1 (Sh.int .i64) ((b.getD k.toNat .top).cells.getD 0 .top)) (br (xiM ((l.getD i.toNat .top).cells.getD 0 .top).toInt ((l.getD i.toNat .top).cells.getD 1 .top).toInt ((b.getD k.toNat .top).cells.getD 0 .top).toInt) (br (decide (0≤i)&&decide (i<l.length)) (br (decide (i.toNat<l.length)&&hasSh1 (Sh.int .i64) ((l.getD i.toNat .top).cells.getD 2 .top)) (κl (i64.wrap (n+((l.getD i.toNat .top).cells.getD 2 .top).toInt),i64.wrap (i+1),a)) δ) δ) (κl (n,i64.wrap (i+1),a))) δ) δ) δ) δ) (κr (n,a))
def xdF (l c:LA) (b:Nat) (k:Int):(Int×Int×LA)→Option ((Int×Int×LA)⊕(Int×LA)):=fun (n,i,a)=>xlI l c b k n i a none (fun s=>some (.inl s)) (fun p=>some (.inr p))
def xjm (l c:LA) (b:Nat) (k:Int):(Int×Int×LA)→LA×List Box:=fun (n,i,a)=>([AV.list 3 l,AV.list 1 c,AV.osl 0 0 0 b,AV.int .i64 k,AV.int .i64 n,AV.int .i64 i],[⟨0,2,75,a,false,true⟩])
def xhF (l b:LA) (a:Nat) (k:Int):(Int×LA)→LR:=fun p=>(.leaf (.exit 4) [AV.list 3 l,AV.list 1 b,AV.osl 0 0 0 a,AV.int .i64 k,AV.int .i64 p.1] [⟨0,2,75,p.2,false,true⟩])
abbrev xGx (a:LA) (H:List Box):=XR Tryz.prog xlQ [0,3,5,6,7,8] [0,3,5,6,7] [(5,2,75),(3,1,1073741824)] (loopAt Tryz.f66 2) a H
theorem xHb (l b:LA) (a:Nat) (k:Int) (s:Int×Int×LA):Enc (encR (xjm l b a k) (xhF l b a k)) (xdF l b a k s) (xGx (xjm l b a k s).1 (xjm l b a k s).2):=by
 obtain ⟨n,i,c⟩:=s
 refine eV (xlI l b a k n i c none (fun s=>some (encR (xjm l b a k) (xhF l b a k) (.inl s))) (fun p=>some (encR (xjm l b a k) (xhF l b a k) (.inr p)))) (by kernel_rfl) ?_;unfold xdF xlI;repeat' first|exact eN|exact eS rfl|apply eB
def xrj:Lp:=lpOf [0,3,5,6,7,8] [0,3,5,6,7] [(5,2,75),(3,1,1073741824)] (pCons (pList 3 pAny) (pCons (pList 1 pAny) (pCons (pOsl 0 0 0) (pCons (pInt .i64) (pCons (pInt .i64) (pCons (pInt .i64) pNil)))))) (pCons (pBox 0 2 75 false true pAny) pNil) fun (l,(c,(a,(k,(n,(i,_)))))) (b,_)=>((Iter (xdF l c a k) (n,i,b)).isSome,xhF l c a k ((Iter (xdF l c a k) (n,i,b)).getD (0,[])))
theorem xuh:LoopOk Tryz.prog (ITryz.at xlQ.pin) xlQ.nt (loopAt Tryz.f66 2) xrj:=xaY fun e f h g=>by
 obtain ⟨l,⟨c,⟨a,⟨k,⟨n,⟨i,_⟩⟩⟩⟩⟩⟩:=e
 obtain ⟨b,_⟩:=f
 obtain ⟨d,rfl⟩:=Prod.mk.inj g
 exact xaG mxTryz (inv0Ok Tryz.prog _) rfl xFO xy9 (xjm l c a k) (xhF l c a k) (fun p=>by simp only [xhF,LR.eval];first|(simp;done)|(repeat' split<;>simp)) (xHb l c a k) (s:=(n,i,b)) (xab d)
def xlW:Env:=xvE.fn 82 0 (lsOf []) (lpsOf [(3,xnt),(14,xrj)])
theorem xFJ:OrcOk Tryz.prog (ITryz.at 0) xlW:=xsb.fn
theorem xzj:LoOk Tryz.prog (ITryz.at xlW.pin) xlW (loopAt Tryz.f66 1):=xaP (ls:=[loopAt Tryz.f66 2]) (by kernel_rfl) (lkC xuh lkN)
def xkY (l c:LA) (b:Nat) (k:Int) (a:LA):=(Iter (xdF l c b k) (0,0,a)).getD (0,[])
def xk6 (l c:LA) (a:Nat) (k:Int) (b:LA):=xeu a ((c.getD k.toNat .top).cells.getD 0 .top).toInt (xkY l c a k b).fst (xkY l c a k b).snd
def xkP (l c:LA) (b:Nat) (k:Int) (a:LA):=(xk6 l c b k a).getD (false,(0,[]),0,[])
def xkV (l c:LA) (b:Nat) (k:Int) (a:LA):=(xkP l c b k a).snd
def xkW (l c:LA) (b:Nat) (k:Int) (a:LA):=(xkP l c b k a).fst
def xkM (l c:LA) (b:Nat) (k:Int) (a:LA):=(xkV l c b k a).fst
def xk2 (l c:LA) (b:Nat) (k:Int) (a:LA):=(xkV l c b k a).snd
def xjk {T:Type} (l c:LA) (b:Nat) (k:Int) (a:LA) (δ:T) (κl:(Nat×Int×LA)→T) (κr:(Nat×LA)→T):T:=br (decide (k<c.length)) (br (decide (0≤k)&&decide (k<c.length)) (br (decide (k.toNat<c.length)&&hasSh1 (Sh.int .i64) ((c.getD k.toNat .top).cells.getD 0 .top)) (br (decide (((c.getD k.toNat .top).cells.getD 0 .top).toInt<1099511627776)) (br ((Iter (xdF l c b k) (0,0,a)).isSome) (br (decide (0≤k)&&decide (k<c.length)) (br (decide (k.toNat<c.length)&&hasSh1 (Sh.int .i64) ((c.getD k.toNat .top).cells.getD 0 .top)) (br ((xk6 l c b k a).isSome) (κl (br (xkW l c b k a) (xkM l c b k a).fst (xk2 l c b k a).fst,i64.wrap (k+1),br (xkW l c b k a) (xkM l c b k a).snd (xk2 l c b k a).snd)) δ) δ) δ) δ) (κr (b,a))) δ) δ) (κr (b,a))
def xdG (l c:LA):(Nat×Int×LA)→Option ((Nat×Int×LA)⊕(Nat×LA)):=fun (b,k,a)=>xjk l c b k a none (fun s=>some (.inl s)) (fun p=>some (.inr p))
def xjr (l c:LA):(Nat×Int×LA)→LA×List Box:=fun (b,k,a)=>([AV.list 3 l,AV.list 1 c,AV.osl 0 0 0 b,AV.int .i64 k],[⟨0,2,75,a,false,true⟩])
def xhH (l a:LA):(Nat×LA)→LR:=fun p=>(.leaf (.exit 2) [AV.osl 0 0 0 p.1] [⟨0,2,75,p.2,false,true⟩])
abbrev xG0 (a:LA) (H:List Box):=XR Tryz.prog xlW [0,3,5,6] [5] [(5,2,75),(3,1,1073741824)] (loopAt Tryz.f66 1) a H
theorem xG9 (l a:LA) (s:Nat×Int×LA):Enc (encR (xjr l a) (xhH l a)) (xdG l a s) (xG0 (xjr l a s).1 (xjr l a s).2):=by
 obtain ⟨c,k,b⟩:=s
 refine eV (xjk l a c k b none (fun s=>some (encR (xjr l a) (xhH l a) (.inl s))) (fun p=>some (encR (xjr l a) (xhH l a) (.inr p)))) (by kernel_rfl) ?_;unfold xdG xjk;repeat' first|exact eN|exact eS rfl|apply eB
def xvZ:Lp:=lpOf [0,3,5,6] [5] [(5,2,75),(3,1,1073741824)] (pCons (pList 3 pAny) (pCons (pList 1 pAny) (pCons (pOsl 0 0 0) (pCons (pInt .i64) pNil)))) (pCons (pBox 0 2 75 false true pAny) pNil) fun (l,(c,(b,(k,_)))) (a,_)=>((Iter (xdG l c) (b,k,a)).isSome,xhH l c ((Iter (xdG l c) (b,k,a)).getD (0,[])))
theorem xDU:LoopOk Tryz.prog (ITryz.at xlW.pin) xlW.nt (loopAt Tryz.f66 1) xvZ:=xaY fun e f h g=>by
 obtain ⟨l,⟨c,⟨b,⟨k,_⟩⟩⟩⟩:=e
 obtain ⟨a,_⟩:=f
 obtain ⟨d,rfl⟩:=Prod.mk.inj g
 exact xaG mxTryz (inv0Ok Tryz.prog _) rfl xFJ xzj (xjr l c) (xhH l c) (fun p=>by simp only [xhH,LR.eval];first|(simp;done)|(repeat' split<;>simp)) (xG9 l c) (s:=(b,k,a)) (xab d)
def xn5:Env:=xvE.fn 82 0 (lsOf []) (lpsOf [(3,xnt),(14,xrj),(10,xvZ)])
theorem xFE:OrcOk Tryz.prog (ITryz.at 0) xn5:=xsb.fn
theorem xCj:LoOk Tryz.prog (ITryz.at xn5.pin) xn5 (Tryz.f66.body.getD .skip):=xaP (ls:=[loopAt Tryz.f66 0,loopAt Tryz.f66 1,loopAt Tryz.f66 2]) (by kernel_rfl) (lkC xDc (lkC xDU (lkC xuh lkN)))
def xu5 (l:LA):=Iter (xdG l ((Iter (xdC l) ([AV.int .i64 0],0)).getD [])) (0,0,[])
def xuQ (l:LA):=(xu5 l).getD (0,[])
def xvr (l:LA):=(xuQ l).fst
def xvb (l:LA):=(xuQ l).snd
def xsX {T:Type} (l:LA) (δ:T) (κ:LA→T):T:=br ((Iter (xdC l) ([AV.int .i64 0],0)).isSome) (br ((xu5 l).isSome) (br (decide (0+xvr l≤(xvb l).length)&&true) (κ (List.take (xvr l) (List.drop 0 (xvb l)))) δ) δ) δ
def xoZ (l:LA):Option (LA):=xsX l none some
theorem xKO (l:LA):Enc (fun (p:LA)=>((AV.list 2 p):AV)) (xoZ l) (XF Tryz.prog xn5 Tryz.f66 (Tryz.f66.body.getD .skip) [AV.list 3 l]):=by
 refine eV (xsX l none (fun (p:LA)=>some ((AV.list 2 p):AV))) (by kernel_rfl) ?_;unfold xoZ xsX;repeat' first|exact eN|exact eS rfl|apply eB
def xDt:LA→Option (Bool×AV):=ocOf (sCons (sList 3 pAny) sNil) fun (l,_)=>((xoZ l).isSome,(AV.list 2 ((xoZ l).getD [])))
theorem xKx:OcOk Tryz.prog ITryz 66 (xDt):=xaN fun c f e=>by
 obtain ⟨l,_⟩:=c
 obtain ⟨a,b⟩:=Prod.mk.inj e
 refine xaH (p:=xn5.pin) (xaL mxTryz (inv0Ok Tryz.prog _) rfl xFE Tryz.func66 rfl (by kernel_rfl) xCj ((xKO _ _ (xab (d:=[]) a)).trans ?_))
 exact congrArg some b
def xDP:Env:=xvE.with 66 xDt
theorem xAC:OrcOk Tryz.prog ITryz xDP:=xsb.with xKx
def xhR:Env:=xDP.fn 32 0 (lsOf []) (lpsOf [])
theorem xzO:OrcOk Tryz.prog (ITryz.at 0) xhR:=xAC.fn
theorem xuW:LoOk Tryz.prog (ITryz.at xhR.pin) xhR (loopAt Tryz.f39 0):=xaq (by kernel_rfl)
def xim {T:Type} (l c:LA) (a:Nat) (i:Int) (b:LA) (δ:T) (κl:(Nat×Int×LA)→T) (κr:(Nat×LA)→T):T:=br (decide (i<l.length)) (br (decide (0≤i)&&decide (i<l.length)) (br (decide (i.toNat<l.length)&&hasSh1 (Sh.list 3) ((l.getD i.toNat .top).cells.getD 0 .top)) (br ((xbe ((l.getD i.toNat .top).cells.getD 0 .top).toList c).isSome) (br ((xbe ((l.getD i.toNat .top).cells.getD 0 .top).toList c).getD 0==0) (br (decide (0≤i)&&decide (i<l.length)) (br (decide (i.toNat<l.length)&&((l.getD i.toNat .top).cells.length==3&&hasShs [Sh.int .i64,Sh.int .i64] (l.getD i.toNat .top).cells 1)) (br (a==b.length&&(decide ((a+1)*24≤140737488355328)&&decide (a+1≤4611686018427387904))) (κl (a+1,i64.wrap (i+1),b++[AV.agg [AV.int .i64 ((l.getD i.toNat .top).cells.getD 1 .top).toInt,AV.int .i64 ((l.getD i.toNat .top).cells.getD 2 .top).toInt,AV.int .i64 1]])) δ) δ) δ) (κl (a,i64.wrap (i+1),b))) δ) δ) δ) (κr (a,b))
def xcv (l b:LA):(Nat×Int×LA)→Option ((Nat×Int×LA)⊕(Nat×LA)):=fun (c,i,a)=>xim l b c i a none (fun s=>some (.inl s)) (fun p=>some (.inr p))
def xgH (l b:LA):(Nat×Int×LA)→LA×List Box:=fun (c,i,a)=>([AV.list 3 l,AV.list 3 b,AV.osl 0 0 0 c,AV.int .i64 i],[⟨0,3,78,a,false,true⟩])
def xfs (l a:LA):(Nat×LA)→LR:=fun p=>(.leaf (.exit 0) [AV.osl 0 0 0 p.1] [⟨0,3,78,p.2,false,true⟩])
abbrev xAT (a:LA) (H:List Box):=XR Tryz.prog xhR [0,1,5,6] [5] [(5,3,78)] (loopAt Tryz.f39 0) a H
theorem xBd (l a:LA) (s:Nat×Int×LA):Enc (encR (xgH l a) (xfs l a)) (xcv l a s) (xAT (xgH l a s).1 (xgH l a s).2):=by
 obtain ⟨c,i,b⟩:=s
 refine eV (xim l a c i b none (fun s=>some (encR (xgH l a) (xfs l a) (.inl s))) (fun p=>some (encR (xgH l a) (xfs l a) (.inr p)))) (by kernel_rfl) ?_;unfold xcv xim;repeat' first|exact eN|exact eS rfl|apply eB
def xrM:Lp:=lpOf [0,1,5,6] [5] [(5,3,78)] (pCons (pList 3 pAny) (pCons (pList 3 pAny) (pCons (pOsl 0 0 0) (pCons (pInt .i64) pNil)))) (pCons (pBox 0 3 78 false true pAny) pNil) fun (l,(a,(c,(i,_)))) (b,_)=>((Iter (xcv l a) (c,i,b)).isSome,xfs l a ((Iter (xcv l a) (c,i,b)).getD (0,[])))
theorem xyB:LoopOk Tryz.prog (ITryz.at xhR.pin) xhR.nt (loopAt Tryz.f39 0) xrM:=xaY fun e f h g=>by
 obtain ⟨l,⟨a,⟨c,⟨i,_⟩⟩⟩⟩:=e
 obtain ⟨b,_⟩:=f
 obtain ⟨d,rfl⟩:=Prod.mk.inj g
 exact xaG mxTryz (inv0Ok Tryz.prog _) rfl xzO xuW (xgH l a) (xfs l a) (fun p=>by simp only [xfs,LR.eval];first|(simp;done)|(repeat' split<;>simp)) (xBd l a) (s:=(c,i,b)) (xab d)
def xjY:Env:=xDP.fn 32 0 (lsOf []) (lpsOf [(3,xrM)])
theorem xzT:OrcOk Tryz.prog (ITryz.at 0) xjY:=xAC.fn
theorem xw1:LoOk Tryz.prog (ITryz.at xjY.pin) xjY (Tryz.f39.body.getD .skip):=xaP (ls:=[loopAt Tryz.f39 0]) (by kernel_rfl) (lkC xyB lkN)
def xp7 (l a:LA):=(Iter (xcv l a) (0,0,[])).getD (0,[])
def xp6 (l a:LA):=(xp7 l a).snd
def xp1 (l a:LA):=(xp7 l a).fst
def xqq (l a:LA):=xoZ (List.take (xp1 l a) (List.drop 0 (xp6 l a)))
def xnM {T:Type} (l a:LA) (δ:T) (κ:LA→T):T:=br ((Iter (xcv l a) (0,0,[])).isSome) (br (decide (0+xp1 l a≤(xp6 l a).length)&&true) (br ((xqq l a).isSome) (κ ((xqq l a).getD [])) δ) δ) δ
def xhy (l a:LA):Option (LA):=xnM l a none some
theorem xFg (l a:LA):Enc (fun (p:LA)=>((AV.list 2 p):AV)) (xhy l a) (XF Tryz.prog xjY Tryz.f39 (Tryz.f39.body.getD .skip) [AV.list 3 l,AV.list 3 a]):=by
 refine eV (xnM l a none (fun (p:LA)=>some ((AV.list 2 p):AV))) (by kernel_rfl) ?_;unfold xhy xnM;repeat' first|exact eN|exact eS rfl|apply eB
def xvQ:LA→Option (Bool×AV):=ocOf (sCons (sList 3 pAny) (sCons (sList 3 pAny) sNil)) fun (l,(a,_))=>((xhy l a).isSome,(AV.list 2 ((xhy l a).getD [])))
theorem xFF:OcOk Tryz.prog ITryz 39 (xvQ):=xaN fun c g e=>by
 obtain ⟨l,⟨f,_⟩⟩:=c
 obtain ⟨a,b⟩:=Prod.mk.inj e
 refine xaH (p:=xjY.pin) (xaL mxTryz (inv0Ok Tryz.prog _) rfl xzT Tryz.func39 rfl (by kernel_rfl) xw1 ((xFg _ _ _ (xab (d:=[]) a)).trans ?_))
 exact congrArg some b
def xvB:Env:=xDP.with 39 xvQ
theorem xr5:OrcOk Tryz.prog ITryz xvB:=xAC.with xFF
def xhD:Env:=xvB.fn 66 0 (lsOf []) (lpsOf [])
theorem xy8:OrcOk Tryz.prog (ITryz.at 0) xhD:=xr5.fn
theorem xvh:LoOk Tryz.prog (ITryz.at xhD.pin) xhD (loopAt Tryz.f46 1):=xaq (by kernel_rfl)
def xgG {T:Type} (a:LA) (c:Nat) (i k:Int) (b:LA) (δ:T) (κl:(Int×LA)→T) (κr:(Int×LA)→T):T:=br (decide (k<a.length)) (br (decide (0≤k)&&decide (k<a.length)) (br (decide (k.toNat<a.length)&&hasSh1 (Sh.list 3) ((a.getD k.toNat .top).cells.getD 0 .top)) (br (decide (0≤i)&&decide (i<a.length)) (br (decide (i.toNat<a.length)&&hasSh1 (Sh.list 3) ((a.getD i.toNat .top).cells.getD 0 .top)) (br ((xbe ((a.getD k.toNat .top).cells.getD 0 .top).toList ((a.getD i.toNat .top).cells.getD 0 .top).toList).isSome) (br ((xbe ((a.getD k.toNat .top).cells.getD 0 .top).toList ((a.getD i.toNat .top).cells.getD 0 .top).toList).getD 0==0) (κl (i64.wrap (k+1),b)) (κr (k,b))) δ) δ) δ) δ) δ) (κr (k,b))
def xbt (c:LA) (b:Nat) (i:Int):(Int×LA)→Option ((Int×LA)⊕(Int×LA)):=fun (k,a)=>xgG c b i k a none (fun s=>some (.inl s)) (fun p=>some (.inr p))
def xgE (c:LA) (b:Nat) (i:Int):(Int×LA)→LA×List Box:=fun (k,a)=>([AV.list 3 c,AV.osl 0 0 0 b,AV.int .i64 i,AV.int .i64 k],[⟨0,2,61,a,false,true⟩])
def xfi (b:LA) (a:Nat) (i:Int):(Int×LA)→LR:=fun p=>(.leaf (.exit 2) [AV.list 3 b,AV.osl 0 0 0 a,AV.int .i64 i,AV.int .i64 p.1] [⟨0,2,61,p.2,false,true⟩])
abbrev xBF (a:LA) (H:List Box):=XR Tryz.prog xhD [3,4,5,6] [3,4,5,6] [(4,2,61)] (loopAt Tryz.f46 1) a H
theorem xA2 (b:LA) (a:Nat) (i:Int) (s:Int×LA):Enc (encR (xgE b a i) (xfi b a i)) (xbt b a i s) (xBF (xgE b a i s).1 (xgE b a i s).2):=by
 obtain ⟨k,c⟩:=s
 refine eV (xgG b a i k c none (fun s=>some (encR (xgE b a i) (xfi b a i) (.inl s))) (fun p=>some (encR (xgE b a i) (xfi b a i) (.inr p)))) (by kernel_rfl) ?_;unfold xbt xgG;repeat' first|exact eN|exact eS rfl|apply eB
def xj5:Lp:=lpOf [3,4,5,6] [3,4,5,6] [(4,2,61)] (pCons (pList 3 pAny) (pCons (pOsl 0 0 0) (pCons (pInt .i64) (pCons (pInt .i64) pNil)))) (pCons (pBox 0 2 61 false true pAny) pNil) fun (c,(a,(i,(k,_)))) (b,_)=>((Iter (xbt c a i) (k,b)).isSome,xfi c a i ((Iter (xbt c a i) (k,b)).getD (0,[])))
theorem xq3:LoopOk Tryz.prog (ITryz.at xhD.pin) xhD.nt (loopAt Tryz.f46 1) xj5:=xaY fun e f h g=>by
 obtain ⟨b,⟨a,⟨i,⟨k,_⟩⟩⟩⟩:=e
 obtain ⟨c,_⟩:=f
 obtain ⟨d,rfl⟩:=Prod.mk.inj g
 exact xaG mxTryz (inv0Ok Tryz.prog _) rfl xy8 xvh (xgE b a i) (xfi b a i) (fun p=>by simp only [xfi,LR.eval];first|(simp;done)|(repeat' split<;>simp)) (xA2 b a i) (s:=(k,c)) (xab d)
def xhP:Env:=xvB.fn 66 0 (lsOf []) (lpsOf [(6,xj5)])
theorem xzK:OrcOk Tryz.prog (ITryz.at 0) xhP:=xr5.fn
theorem xuF:LoOk Tryz.prog (ITryz.at xhP.pin) xhP (loopAt Tryz.f46 2):=xaq (by kernel_rfl)
def xgq {T:Type} (d:LA) (i k:Int) (a:LA) (b:Nat) (n:Int) (c:LA) (δ:T) (κl:(Nat×Int×LA)→T) (κr:(Nat×LA)→T):T:=br (decide (n<a.length)) (br (decide (0≤n)&&decide (n<a.length)) (br (decide (n.toNat<a.length)&&hasSh1 (Sh.list 3) ((a.getD n.toNat .top).cells.getD 0 .top)) (br (decide (0≤k)&&decide (k≤d.length)&&(decide (0≤i)&&decide (i≤(↑k.toNat:Int)))) (br (decide (0≤n)&&decide (n<a.length)) (br (decide (n.toNat<a.length)&&hasSh1 (Sh.list 3) ((a.getD n.toNat .top).cells.getD 0 .top)) (br ((xhy (List.take (k.toNat - i.toNat) (List.drop i.toNat d)) ((a.getD n.toNat .top).cells.getD 0 .top).toList).isSome) (br (b==c.length&&(decide ((b+1)*48≤140737488355328)&&decide (b+1≤4611686018427387904))) (κl (b+1,i64.wrap (n+1),c++[AV.agg [AV.list 3 ((a.getD n.toNat .top).cells.getD 0 .top).toList,AV.list 2 ((xhy (List.take (k.toNat - i.toNat) (List.drop i.toNat d)) ((a.getD n.toNat .top).cells.getD 0 .top).toList).getD [])]])) δ) δ) δ) δ) δ) δ) δ) (κr (b,c))
def xcs (d:LA) (i k:Int) (c:LA):(Nat×Int×LA)→Option ((Nat×Int×LA)⊕(Nat×LA)):=fun (b,n,a)=>xgq d i k c b n a none (fun s=>some (.inl s)) (fun p=>some (.inr p))
def xgy (d:LA) (i k:Int) (c:LA):(Nat×Int×LA)→LA×List Box:=fun (b,n,a)=>([AV.list 3 d,AV.osl 0 0 0 b,AV.int .i64 i,AV.int .i64 k,AV.list 1 c,AV.int .i64 n],[⟨0,2,61,a,false,true⟩])
def xfp (a:LA) (i k:Int) (b:LA):(Nat×LA)→LR:=fun p=>(.leaf (.exit 4) [AV.list 3 a,AV.osl 0 0 0 p.1,AV.int .i64 k] [⟨0,2,61,p.2,false,true⟩])
abbrev xBt (a:LA) (H:List Box):=XR Tryz.prog xhP [3,4,5,6,7,8] [3,4,6] [(4,2,61)] (loopAt Tryz.f46 2) a H
theorem xA9 (b:LA) (i k:Int) (a:LA) (s:Nat×Int×LA):Enc (encR (xgy b i k a) (xfp b i k a)) (xcs b i k a s) (xBt (xgy b i k a s).1 (xgy b i k a s).2):=by
 obtain ⟨d,n,c⟩:=s
 refine eV (xgq b i k a d n c none (fun s=>some (encR (xgy b i k a) (xfp b i k a) (.inl s))) (fun p=>some (encR (xgy b i k a) (xfp b i k a) (.inr p)))) (by kernel_rfl) ?_;unfold xcs xgq;repeat' first|exact eN|exact eS rfl|apply eB
def xmy:Lp:=lpOf [3,4,5,6,7,8] [3,4,6] [(4,2,61)] (pCons (pList 3 pAny) (pCons (pOsl 0 0 0) (pCons (pInt .i64) (pCons (pInt .i64) (pCons (pList 1 pAny) (pCons (pInt .i64) pNil)))))) (pCons (pBox 0 2 61 false true pAny) pNil) fun (d,(c,(i,(k,(b,(n,_)))))) (a,_)=>((Iter (xcs d i k b) (c,n,a)).isSome,xfp d i k b ((Iter (xcs d i k b) (c,n,a)).getD (0,[])))
theorem xq1:LoopOk Tryz.prog (ITryz.at xhP.pin) xhP.nt (loopAt Tryz.f46 2) xmy:=xaY fun f g j h=>by
 obtain ⟨b,⟨d,⟨i,⟨k,⟨a,⟨n,_⟩⟩⟩⟩⟩⟩:=f
 obtain ⟨c,_⟩:=g
 obtain ⟨e,rfl⟩:=Prod.mk.inj h
 exact xaG mxTryz (inv0Ok Tryz.prog _) rfl xzK xuF (xgy b i k a) (xfp b i k a) (fun p=>by simp only [xfp,LR.eval];first|(simp;done)|(repeat' split<;>simp)) (xA9 b i k a) (s:=(d,n,c)) (xab e)
def xhx:Env:=xvB.fn 66 0 (lsOf []) (lpsOf [(6,xj5),(10,xmy)])
theorem xAk:OrcOk Tryz.prog (ITryz.at 0) xhx:=xr5.fn
theorem xvg:LoOk Tryz.prog (ITryz.at xhx.pin) xhx (loopAt Tryz.f46 0):=xaP (ls:=[loopAt Tryz.f46 1,loopAt Tryz.f46 2]) (by kernel_rfl) (lkC xq3 (lkC xq1 lkN))
def xdu (c:LA) (b:Nat) (i:Int) (a:LA):=((Iter (xbt c b i) (i,a)).getD (0,[])).fst
def xmF (c:LA) (a:Nat) (i:Int) (b:LA):=Iter (xcs c i (xdu c a i b) ((xkc (List.take ((xdu c a i b).toNat - i.toNat) (List.drop i.toNat c))).getD [])) (a,0,((Iter (xbt c a i) (i,b)).getD (0,[])).snd)
def xmn (c:LA) (b:Nat) (i:Int) (a:LA):=(xmF c b i a).getD (0,[])
def xig {T:Type} (c:LA) (b:Nat) (i:Int) (a:LA) (δ:T) (κl:(Nat×Int×LA)→T) (κr:(Nat×LA)→T):T:=br (decide (i<c.length)) (br ((Iter (xbt c b i) (i,a)).isSome) (br (decide (0≤xdu c b i a)&&decide (xdu c b i a≤c.length)&&(decide (0≤i)&&decide (i≤(↑(xdu c b i a).toNat:Int)))) (br ((xkc (List.take ((xdu c b i a).toNat - i.toNat) (List.drop i.toNat c))).isSome) (br ((xmF c b i a).isSome) (κl ((xmn c b i a).fst,xdu c b i a,(xmn c b i a).snd)) δ) δ) δ) δ) (κr (b,a))
def xcw (c:LA):(Nat×Int×LA)→Option ((Nat×Int×LA)⊕(Nat×LA)):=fun (b,i,a)=>xig c b i a none (fun s=>some (.inl s)) (fun p=>some (.inr p))
def xgu (c:LA):(Nat×Int×LA)→LA×List Box:=fun (b,i,a)=>([AV.list 3 c,AV.osl 0 0 0 b,AV.int .i64 i],[⟨0,2,61,a,false,true⟩])
def xfb (a:LA):(Nat×LA)→LR:=fun p=>(.leaf (.exit 0) [AV.osl 0 0 0 p.1] [⟨0,2,61,p.2,false,true⟩])
abbrev xBE (a:LA) (H:List Box):=XR Tryz.prog xhx [3,4,5] [4] [(4,2,61)] (loopAt Tryz.f46 0) a H
theorem xAY (a:LA) (s:Nat×Int×LA):Enc (encR (xgu a) (xfb a)) (xcw a s) (xBE (xgu a s).1 (xgu a s).2):=by
 obtain ⟨c,i,b⟩:=s
 refine eV (xig a c i b none (fun s=>some (encR (xgu a) (xfb a) (.inl s))) (fun p=>some (encR (xgu a) (xfb a) (.inr p)))) (by kernel_rfl) ?_;unfold xcw xig;repeat' first|exact eN|exact eS rfl|apply eB
def xrP:Lp:=lpOf [3,4,5] [4] [(4,2,61)] (pCons (pList 3 pAny) (pCons (pOsl 0 0 0) (pCons (pInt .i64) pNil))) (pCons (pBox 0 2 61 false true pAny) pNil) fun (c,(b,(i,_))) (a,_)=>((Iter (xcw c) (b,i,a)).isSome,xfb c ((Iter (xcw c) (b,i,a)).getD (0,[])))
theorem xyO:LoopOk Tryz.prog (ITryz.at xhx.pin) xhx.nt (loopAt Tryz.f46 0) xrP:=xaY fun e f h g=>by
 obtain ⟨a,⟨c,⟨i,_⟩⟩⟩:=e
 obtain ⟨b,_⟩:=f
 obtain ⟨d,rfl⟩:=Prod.mk.inj g
 exact xaG mxTryz (inv0Ok Tryz.prog _) rfl xAk xvg (xgu a) (xfb a) (fun p=>by simp only [xfb,LR.eval];first|(simp;done)|(repeat' split<;>simp)) (xAY a) (s:=(c,i,b)) (xab d)
def xkb:Env:=xvB.fn 66 0 (lsOf []) (lpsOf [(6,xj5),(10,xmy),(4,xrP)])
theorem xAd:OrcOk Tryz.prog (ITryz.at 0) xkb:=xr5.fn
theorem xwU:LoOk Tryz.prog (ITryz.at xkb.pin) xkb (Tryz.f46.body.getD .skip):=xaP (ls:=[loopAt Tryz.f46 0,loopAt Tryz.f46 1,loopAt Tryz.f46 2]) (by kernel_rfl) (lkC xyO (lkC xq3 (lkC xq1 lkN)))
def xp4 (l:LA):=Iter (xcw ((xc1 100 l).getD [])) (0,0,[])
def xpV (l:LA):=(xp4 l).getD (0,[])
def xqu (l:LA):=(xpV l).fst
def xpU (l:LA):=(xpV l).snd
def xnw {T:Type} (l:LA) (δ:T) (κ:LA→T):T:=br ((xc1 100 l).isSome) (br ((xp4 l).isSome) (br (decide (0+xqu l≤(xpU l).length)&&true) (κ (List.take (xqu l) (List.drop 0 (xpU l)))) δ) δ) δ
def xf3 (l:LA):Option (LA):=xnw l none some
theorem xFP (l:LA):Enc (fun (p:LA)=>((AV.list 2 p):AV)) (xf3 l) (XF Tryz.prog xkb Tryz.f46 (Tryz.f46.body.getD .skip) [AV.list 3 l]):=by
 refine eV (xnw l none (fun (p:LA)=>some ((AV.list 2 p):AV))) (by kernel_rfl) ?_;unfold xf3 xnw;repeat' first|exact eN|exact eS rfl|apply eB
def xvv:LA→Option (Bool×AV):=ocOf (sCons (sList 3 pAny) sNil) fun (l,_)=>((xf3 l).isSome,(AV.list 2 ((xf3 l).getD [])))
theorem xFA:OcOk Tryz.prog ITryz 46 (xvv):=xaN fun c f e=>by
 obtain ⟨l,_⟩:=c
 obtain ⟨a,b⟩:=Prod.mk.inj e
 refine xaH (p:=xkb.pin) (xaL mxTryz (inv0Ok Tryz.prog _) rfl xAd Tryz.func46 rfl (by kernel_rfl) xwU ((xFP _ _ (xab (d:=[]) a)).trans ?_))
 exact congrArg some b
def xDS:Env:=xvB.with 46 xvv
theorem xz4:OrcOk Tryz.prog ITryz xDS:=xr5.with xFA
def xhg:Env:=xDS.fn 42 0 (lsOf []) (lpsOf [])
theorem xyG:OrcOk Tryz.prog (ITryz.at 0) xhg:=xz4.fn
theorem xtX:LoOk Tryz.prog (ITryz.at xhg.pin) xhg (loopAt Tryz.f50 0):=xaq (by kernel_rfl)
def xe8 (l:LA) (n i:Int):=decide (((l.getD i.toNat .top).cells.getD 1 .top).toInt≥n)
def xc8 (l:LA) (i:Int):=decide (0≤i)&&decide (i<l.length)
def xeG (l:LA) (b:Nat) (i:Int) (a:LA):=(xdh b ((l.getD i.toNat .top).cells.getD 0 .top).toInt 1099511627776 a).getD (false,(0,[],[]),0,[])
def xeK (l:LA) (b:Nat) (i:Int) (a:LA):=xdh b ((l.getD i.toNat .top).cells.getD 0 .top).toInt ((l.getD (i64.wrap (i+1)).toNat .top).cells.getD 0 .top).toInt a
def xeL (l:LA) (i:Int):=decide (i64.wrap (i+1)<(↑l.length:Int))
def xft (l:LA) (b:Nat) (i:Int) (a:LA):=(xeK l b i a).getD (false,(0,[],[]),0,[])
def xfc (l:LA) (b:Nat) (i:Int) (a:LA):=(xeG l b i a).fst
def xfy (l:LA) (b:Nat) (i:Int) (a:LA):=(xeG l b i a).snd
def xfe (l:LA) (b:Nat) (i:Int) (a:LA):=(xft l b i a).fst
def xfg (l:LA) (b:Nat) (i:Int) (a:LA):=(xft l b i a).snd
def xe0 (l:LA) (b:Nat) (i:Int) (a:LA):=(xfy l b i a).snd
def xe3 (l:LA) (b:Nat) (i:Int) (a:LA):=(xfy l b i a).fst
def xfo (l:LA) (b:Nat) (i:Int) (a:LA):=(xfg l b i a).snd
def xfl (l:LA) (b:Nat) (i:Int) (a:LA):=(xfg l b i a).fst
def xdt {T:Type} (l:LA) (n:Int) (b:Nat) (i:Int) (a:LA) (δ:T) (κl:(Nat×Int×LA)→T) (κr:(Nat×LA)→T):T:=br (decide (i<l.length)) (br (xeL l i) (br (decide (0≤i64.wrap (i+1))&&xeL l i) (br (decide ((i64.wrap (i+1)).toNat<l.length)&&hasSh1 (Sh.int .i64) ((l.getD (i64.wrap (i+1)).toNat .top).cells.getD 0 .top)) (br (xc8 l i) (br (decide (i.toNat<l.length)&&hasSh1 (Sh.int .i64) ((l.getD i.toNat .top).cells.getD 1 .top)) (br (xe8 l n i) (br (xc8 l i) (br (decide (i.toNat<l.length)&&hasSh1 (Sh.int .i64) ((l.getD i.toNat .top).cells.getD 0 .top)) (br ((xeK l b i a).isSome) (κl (br (xfe l b i a) (xfl l b i a).fst (xfo l b i a).fst,i64.wrap (i+1),br (xfe l b i a) (xfl l b i a).snd.snd (xfo l b i a).snd)) δ) δ) δ) (κl (b,i64.wrap (i+1),a))) δ) δ) δ) δ) (br (xc8 l i) (br (decide (i.toNat<l.length)&&hasSh1 (Sh.int .i64) ((l.getD i.toNat .top).cells.getD 1 .top)) (br (xe8 l n i) (br (xc8 l i) (br (decide (i.toNat<l.length)&&hasSh1 (Sh.int .i64) ((l.getD i.toNat .top).cells.getD 0 .top)) (br ((xdh b ((l.getD i.toNat .top).cells.getD 0 .top).toInt 1099511627776 a).isSome) (κl (br (xfc l b i a) (xe3 l b i a).fst (xe0 l b i a).fst,i64.wrap (i+1),br (xfc l b i a) (xe3 l b i a).snd.snd (xe0 l b i a).snd)) δ) δ) δ) (κl (b,i64.wrap (i+1),a))) δ) δ)) (κr (b,a))
def xa2 (l:LA) (n:Int):(Nat×Int×LA)→Option ((Nat×Int×LA)⊕(Nat×LA)):=fun (b,i,a)=>xdt l n b i a none (fun s=>some (.inl s)) (fun p=>some (.inr p))
def xfM (l:LA) (n:Int):(Nat×Int×LA)→LA×List Box:=fun (b,i,a)=>([AV.list 2 l,AV.int .i64 n,AV.osl 0 0 0 b,AV.int .i64 i],[⟨0,2,31,a,false,true⟩])
def xeH (l:LA) (n:Int):(Nat×LA)→LR:=fun p=>(.leaf (.exit 0) [AV.osl 0 0 0 p.1] [⟨0,2,31,p.2,false,true⟩])
abbrev xzi (a:LA) (H:List Box):=XR Tryz.prog xhg [0,1,5,6] [5] [(5,2,31)] (loopAt Tryz.f50 0) a H
theorem xzP (l:LA) (n:Int) (s:Nat×Int×LA):Enc (encR (xfM l n) (xeH l n)) (xa2 l n s) (xzi (xfM l n s).1 (xfM l n s).2):=by
 obtain ⟨b,i,a⟩:=s
 refine eV (xdt l n b i a none (fun s=>some (encR (xfM l n) (xeH l n) (.inl s))) (fun p=>some (encR (xfM l n) (xeH l n) (.inr p)))) (by kernel_rfl) ?_;unfold xa2 xdt;repeat' first|exact eN|exact eS rfl|apply eB
def xqU:Lp:=lpOf [0,1,5,6] [5] [(5,2,31)] (pCons (pList 2 pAny) (pCons (pInt .i64) (pCons (pOsl 0 0 0) (pCons (pInt .i64) pNil)))) (pCons (pBox 0 2 31 false true pAny) pNil) fun (l,(n,(b,(i,_)))) (a,_)=>((Iter (xa2 l n) (b,i,a)).isSome,xeH l n ((Iter (xa2 l n) (b,i,a)).getD (0,[])))
theorem xwv:LoopOk Tryz.prog (ITryz.at xhg.pin) xhg.nt (loopAt Tryz.f50 0) xqU:=xaY fun d e g f=>by
 obtain ⟨l,⟨n,⟨b,⟨i,_⟩⟩⟩⟩:=d
 obtain ⟨a,_⟩:=e
 obtain ⟨c,rfl⟩:=Prod.mk.inj f
 exact xaG mxTryz (inv0Ok Tryz.prog _) rfl xyG xtX (xfM l n) (xeH l n) (fun p=>by simp only [xeH,LR.eval];first|(simp;done)|(repeat' split<;>simp)) (xzP l n) (s:=(b,i,a)) (xab c)
def xiW:Env:=xDS.fn 42 0 (lsOf []) (lpsOf [(3,xqU)])
theorem xyZ:OrcOk Tryz.prog (ITryz.at 0) xiW:=xz4.fn
theorem xv1:LoOk Tryz.prog (ITryz.at xiW.pin) xiW (Tryz.f50.body.getD .skip):=xaP (ls:=[loopAt Tryz.f50 0]) (by kernel_rfl) (lkC xwv lkN)
def xo0 (l:LA) (n:Int):=(Iter (xa2 l n) (0,0,[])).getD (0,[])
def xoO (l:LA) (n:Int):=(xo0 l n).snd
def xoY (l:LA) (n:Int):=(xo0 l n).fst
def xmd {T:Type} (l:LA) (n:Int) (δ:T) (κ:LA→T):T:=br ((Iter (xa2 l n) (0,0,[])).isSome) (br (decide (0+xoY l n≤(xoO l n).length)&&true) (κ (List.take (xoY l n) (List.drop 0 (xoO l n)))) δ) δ
def xdk (l:LA) (n:Int):Option (LA):=xmd l n none some
theorem xDO (l:LA) (n:Int):Enc (fun (p:LA)=>((AV.list 2 p):AV)) (xdk l n) (XF Tryz.prog xiW Tryz.f50 (Tryz.f50.body.getD .skip) [AV.list 2 l,AV.int .i64 n]):=by
 refine eV (xmd l n none (fun (p:LA)=>some ((AV.list 2 p):AV))) (by kernel_rfl) ?_;unfold xdk xmd;repeat' first|exact eN|exact eS rfl|apply eB
def xt3:LA→Option (Bool×AV):=ocOf (sCons (sList 2 pAny) (sCons (sEq (pInt .i64)) sNil)) fun (l,(n,_))=>((xdk l n).isSome,(AV.list 2 ((xdk l n).getD [])))
theorem xD8:OcOk Tryz.prog ITryz 50 (xt3):=xaN fun c f e=>by
 obtain ⟨l,⟨n,_⟩⟩:=c
 obtain ⟨a,b⟩:=Prod.mk.inj e
 refine xaH (p:=xiW.pin) (xaL mxTryz (inv0Ok Tryz.prog _) rfl xyZ Tryz.func50 rfl (by kernel_rfl) xv1 ((xDO _ _ _ (xab (d:=[]) a)).trans ?_))
 exact congrArg some b
def xD7:Env:=xDS.with 50 xt3
theorem xAw:OrcOk Tryz.prog ITryz xD7:=xz4.with xD8
def xiJ:Env:=xD7.fn 38 0 (lsOf []) (lpsOf [])
theorem xBo:OrcOk Tryz.prog (ITryz.at 0) xiJ:=xAw.fn
theorem xvP:LoOk Tryz.prog (ITryz.at xiJ.pin) xiJ (loopAt Tryz.f75 0):=xaq (by kernel_rfl)
def xkD (l:LA) (i:Int):=decide (i.toNat<l.length)&&((l.getD i.toNat .top).cells.length==2&&hasShs [Sh.int .i64,Sh.int .i64] (l.getD i.toNat .top).cells 0)
def xhe {T:Type} (l:LA) (a:Nat) (i c d:Int) (b:LA) (δ:T) (κl:(Nat×Int×Int×Int×LA)→T) (κr:(Nat×Int×Int×Int×LA)→T):T:=br (decide (i<l.length)) (br (decide (0≤i)&&decide (i<l.length)) (br (xkD l i) (br (decide (xjn ((l.getD i.toNat .top).cells.getD 0 .top).toInt ((l.getD i.toNat .top).cells.getD 1 .top).toInt c d≤0)) (br (decide (0≤i)&&decide (i<l.length)) (br (xkD l i) (br (a==b.length&&(decide ((a+1)*16≤140737488355328)&&decide (a+1≤4611686018427387904))) (κl (a+1,i64.wrap (i+1),c,d,b++[AV.agg [AV.int .i64 ((l.getD i.toNat .top).cells.getD 0 .top).toInt,AV.int .i64 ((l.getD i.toNat .top).cells.getD 1 .top).toInt]])) δ) δ) δ) (κr (a,i,c,d,b))) δ) δ) (κr (a,i,c,d,b))
def xce (l:LA):(Nat×Int×Int×Int×LA)→Option ((Nat×Int×Int×Int×LA)⊕(Nat×Int×Int×Int×LA)):=fun (b,i,c,d,a)=>xhe l b i c d a none (fun s=>some (.inl s)) (fun p=>some (.inr p))
def xhi (l:LA):(Nat×Int×Int×Int×LA)→LA×List Box:=fun (b,i,c,d,a)=>([AV.list 2 l,AV.own 0 0 0 0,AV.osl 1 0 0 b,AV.int .i64 i],[⟨0,2,31,[AV.agg [AV.int .i64 c,AV.int .i64 d]],false,true⟩,⟨0,2,31,a,false,true⟩])
def xfP (l:LA):(Nat×Int×Int×Int×LA)→LR:=fun p=>(.leaf (.exit 0) [AV.list 2 l,AV.own 0 0 0 0,AV.osl 1 0 0 p.1,AV.int .i64 p.2.1] [⟨0,2,31,[AV.agg [AV.int .i64 p.2.2.1,AV.int .i64 p.2.2.2.1]],false,true⟩,⟨0,2,31,p.2.2.2.2,false,true⟩])
abbrev xC1 (a:LA) (H:List Box):=XR Tryz.prog xiJ [0,3,5,6] [0,3,5,6] [(5,2,31)] (loopAt Tryz.f75 0) a H
theorem xCS (l:LA) (s:Nat×Int×Int×Int×LA):Enc (encR (xhi l) (xfP l)) (xce l s) (xC1 (xhi l s).1 (xhi l s).2):=by
 obtain ⟨b,i,c,d,a⟩:=s
 refine eV (xhe l b i c d a none (fun s=>some (encR (xhi l) (xfP l) (.inl s))) (fun p=>some (encR (xhi l) (xfP l) (.inr p)))) (by kernel_rfl) ?_;unfold xce xhe;repeat' first|exact eN|exact eS rfl|apply eB
def xsw:Lp:=lpOf [0,3,5,6] [0,3,5,6] [(5,2,31)] (pCons (pList 2 pAny) (pCons (pOwn 0 0 0 0) (pCons (pOsl 1 0 0) (pCons (pInt .i64) pNil)))) (pCons (pBox 0 2 31 false true (pCons (pAgg (pCons (pInt .i64) (pCons (pInt .i64) pNil))) pNil)) (pCons (pBox 0 2 31 false true pAny) pNil)) fun (l,(_,(b,(i,_)))) (((c,(d,_)),_),(a,_))=>((Iter (xce l) (b,i,c,d,a)).isSome,xfP l ((Iter (xce l) (b,i,c,d,a)).getD (0,0,0,0,[])))
theorem xAh:LoopOk Tryz.prog (ITryz.at xiJ.pin) xiJ.nt (loopAt Tryz.f75 0) xsw:=xaY fun f g j h=>by
 obtain ⟨l,⟨_,⟨b,⟨i,_⟩⟩⟩⟩:=f
 obtain ⟨⟨⟨c,⟨d,_⟩⟩,_⟩,⟨a,_⟩⟩:=g
 obtain ⟨e,rfl⟩:=Prod.mk.inj h
 exact xaG mxTryz (inv0Ok Tryz.prog _) rfl xBo xvP (xhi l) (xfP l) (fun p=>by simp only [xfP,LR.eval];first|(simp;done)|(repeat' split<;>simp)) (xCS l) (s:=(b,i,c,d,a)) (xab e)
def xkR:Env:=xD7.fn 38 0 (lsOf []) (lpsOf [(3,xsw)])
theorem xBc:OrcOk Tryz.prog (ITryz.at 0) xkR:=xAw.fn
theorem xyJ:LoOk Tryz.prog (ITryz.at xkR.pin) xkR (Tryz.f75.body.getD .skip):=xaP (ls:=[loopAt Tryz.f75 0]) (by kernel_rfl) (lkC xAh lkN)
def xpT (l:LA) (a b:Int):=Iter (xce l) (0,0,a,b,[])
def xqr (l:LA) (a b:Int):=(xpT l a b).getD (0,0,0,0,[])
def xri (l:LA) (a b:Int):=(xqr l a b).fst
def xp0 (l:LA) (a b:Int):=(xqr l a b).snd
def xlb (l:LA) (a b:Int):=xri l a b+1
def xkK (l:LA) (a b:Int):=(xp0 l a b).fst
def xq8 (l:LA) (a b:Int):=(xp0 l a b).snd
def xrd (l:LA) (a b:Int):=List.take (l.length - (xkK l a b).toNat) (List.drop (xkK l a b).toNat l)
def xrm (l:LA) (a b:Int):=(xq8 l a b).snd
def xla (l:LA) (a b:Int):=xlb l a b+(xrd l a b).length
def xrp (l:LA) (a b:Int):=(xrm l a b).snd
def xrf (l:LA) (a b:Int):=xrp l a b++[AV.agg [AV.int .i64 (xq8 l a b).fst,AV.int .i64 (xrm l a b).fst]]
def xrh (l:LA) (a b:Int):=xrf l a b++xrd l a b
def xon {T:Type} (l:LA) (a b:Int) (δ:T) (κ:LA→T):T:=br ((xpT l a b).isSome) (br (xri l a b==(xrp l a b).length&&(decide (xlb l a b*16≤140737488355328)&&decide (xlb l a b≤4611686018427387904))) (br (decide (0≤xkK l a b)&&decide (xkK l a b≤l.length)) (br (xlb l a b==(xrf l a b).length&&(decide (xla l a b*16≤140737488355328)&&decide (xla l a b≤4611686018427387904))) (br (decide (0+xla l a b≤(xrh l a b).length)&&true) (κ (List.take (xla l a b) (List.drop 0 (xrh l a b)))) δ) δ) δ) δ) δ
def xiE (l:LA) (a b:Int):Option (LA):=xon l a b none some
theorem xGS (l:LA) (a b:Int):Enc (fun (p:LA)=>((AV.list 2 p):AV)) (xiE l a b) (XF Tryz.prog xkR Tryz.f75 (Tryz.f75.body.getD .skip) [AV.list 2 l,AV.agg [AV.int .i64 a,AV.int .i64 b]]):=by
 refine eV (xon l a b none (fun (p:LA)=>some ((AV.list 2 p):AV))) (by kernel_rfl) ?_;unfold xiE xon;repeat' first|exact eN|exact eS rfl|apply eB
def xyl:LA→Option (Bool×AV):=ocOf (sCons (sList 2 pAny) (sCons (sAgg (sCons (sEq (pInt .i64)) (sCons (sEq (pInt .i64)) sNil))) sNil)) fun (l,((a,(b,_)),_))=>((xiE l a b).isSome,(AV.list 2 ((xiE l a b).getD [])))
theorem xG7:OcOk Tryz.prog ITryz 75 (xyl):=xaN fun c h e=>by
 obtain ⟨l,⟨⟨f,⟨g,_⟩⟩,_⟩⟩:=c
 obtain ⟨a,b⟩:=Prod.mk.inj e
 refine xaH (p:=xkR.pin) (xaL mxTryz (inv0Ok Tryz.prog _) rfl xBc Tryz.func75 rfl (by kernel_rfl) xyJ ((xGS _ _ _ _ (xab (d:=[]) a)).trans ?_))
 exact congrArg some b
def xy6:Env:=xD7.with 75 xyl
theorem xuk:OrcOk Tryz.prog ITryz xy6:=xAw.with xG7
def xhI:Env:=xy6.fn 31 0 (lsOf []) (lpsOf [])
theorem xAD:OrcOk Tryz.prog (ITryz.at 0) xhI:=xuk.fn
theorem xvt:LoOk Tryz.prog (ITryz.at xhI.pin) xhI (loopAt Tryz.f48 1):=xaq (by kernel_rfl)
def xh9 {T:Type} (l:LA) (n:Int) (a b:LA) (i:Int) (δ:T) (κl:(LA×Int)→T) (κr:(LA)→T):T:=br (decide (i<a.length)) (br (decide (0≤i)&&decide (i<a.length)) (br (decide (i.toNat<a.length)&&((a.getD i.toNat .top).cells.length==2&&hasShs [Sh.int .i64,Sh.int .i64] (a.getD i.toNat .top).cells 0)) (br ((xiE b ((a.getD i.toNat .top).cells.getD 0 .top).toInt ((a.getD i.toNat .top).cells.getD 1 .top).toInt).isSome) (κl ((xiE b ((a.getD i.toNat .top).cells.getD 0 .top).toInt ((a.getD i.toNat .top).cells.getD 1 .top).toInt).getD [],i64.wrap (i+1))) δ) δ) δ) (κr (b))
def xbO (l:LA) (n:Int) (b:LA):(LA×Int)→Option ((LA×Int)⊕(LA)):=fun (a,i)=>xh9 l n b a i none (fun s=>some (.inl s)) (fun p=>some (.inr p))
def xgz (l:LA) (n:Int) (b:LA):(LA×Int)→LA×List Box:=fun (a,i)=>([AV.list 2 l,AV.list 2 a,AV.int .i64 n,AV.list 2 b,AV.int .i64 i],[])
def xe1 (l:LA) (n:Int) (a:LA):(LA)→LR:=fun p=>(.leaf (.exit 2) [AV.list 2 l,AV.list 2 p,AV.int .i64 n] [])
abbrev xBC (a:LA) (H:List Box):=XR Tryz.prog xhI [0,3,4,5,6] [0,3,4] [(3,2,1073741824)] (loopAt Tryz.f48 1) a H
theorem xBJ (l:LA) (n:Int) (a:LA) (s:LA×Int):Enc (encR (xgz l n a) (xe1 l n a)) (xbO l n a s) (xBC (xgz l n a s).1 (xgz l n a s).2):=by
 obtain ⟨b,i⟩:=s
 refine eV (xh9 l n a b i none (fun s=>some (encR (xgz l n a) (xe1 l n a) (.inl s))) (fun p=>some (encR (xgz l n a) (xe1 l n a) (.inr p)))) (by kernel_rfl) ?_;unfold xbO xh9;repeat' first|exact eN|exact eS rfl|apply eB
def xmG:Lp:=lpOf [0,3,4,5,6] [0,3,4] [(3,2,1073741824)] (pCons (pList 2 pAny) (pCons (pList 2 pAny) (pCons (pInt .i64) (pCons (pList 2 pAny) (pCons (pInt .i64) pNil))))) pNil fun (l,(a,(n,(b,(i,_))))) _=>((Iter (xbO l n b) (a,i)).isSome,xe1 l n b ((Iter (xbO l n b) (a,i)).getD []))
theorem xq0:LoopOk Tryz.prog (ITryz.at xhI.pin) xhI.nt (loopAt Tryz.f48 1) xmG:=xaY fun d f g e=>by
 obtain ⟨l,⟨b,⟨n,⟨a,⟨i,_⟩⟩⟩⟩⟩:=d
 obtain ⟨c,rfl⟩:=Prod.mk.inj e
 exact xaG mxTryz (inv0Ok Tryz.prog _) rfl xAD xvt (xgz l n a) (xe1 l n a) (fun p=>by simp only [xe1,LR.eval];first|(simp;done)|(repeat' split<;>simp)) (xBJ l n a) (s:=(b,i)) (xab c)
def xhQ:Env:=xy6.fn 31 0 (lsOf []) (lpsOf [(9,xmG)])
theorem xzW:OrcOk Tryz.prog (ITryz.at 0) xhQ:=xuk.fn
theorem xuL:LoOk Tryz.prog (ITryz.at xhQ.pin) xhQ (loopAt Tryz.f48 0):=xaP (ls:=[loopAt Tryz.f48 1]) (by kernel_rfl) (lkC xq0 lkN)
def xih {T:Type} (l a:LA) (n:Int) (δ:T) (κl:(LA×Int)→T) (κr:(Bool×(LA×LA)×(LA))→T):T:=br (decide (n≤1048576)) (br ((xdk l n).isSome) (br ((↑((xdk l n).getD []).length:Int)==0) (κr (true,(a,a),[])) (br ((Iter (xbO l n ((xdk l n).getD [])) (a,0)).isSome) (κl ((Iter (xbO l n ((xdk l n).getD [])) (a,0)).getD [],i64.wrap (n+1))) δ)) δ) (κr (false,([],[]),(a)))
def xbP (l:LA):(LA×Int)→Option ((LA×Int)⊕(Bool×(LA×LA)×(LA))):=fun (a,n)=>xih l a n none (fun s=>some (.inl s)) (fun p=>some (.inr p))
def xgB (l:LA):(LA×Int)→LA×List Box:=fun (a,n)=>([AV.list 2 l,AV.list 2 a,AV.int .i64 n],[])
def xfz (l:LA):(Bool×(LA×LA)×(LA))→LR:=fun p=>(.node p.1 (.leaf .ret [AV.list 2 p.2.1.1,AV.list 2 p.2.1.2] []) (.leaf (.exit 0) [.top,AV.list 2 p.2.2] []))
abbrev xBw (a:LA) (H:List Box):=XR Tryz.prog xhQ [0,3,4] [2,3] [(3,2,1073741824)] (loopAt Tryz.f48 0) a H
theorem xBp (l:LA) (s:LA×Int):Enc (encR (xgB l) (xfz l)) (xbP l s) (xBw (xgB l s).1 (xgB l s).2):=by
 obtain ⟨a,n⟩:=s
 refine eV (xih l a n none (fun s=>some (encR (xgB l) (xfz l) (.inl s))) (fun p=>some (encR (xgB l) (xfz l) (.inr p)))) (by kernel_rfl) ?_;unfold xbP xih;repeat' first|exact eN|exact eS rfl|apply eB
def xrT:Lp:=lpOf [0,3,4] [2,3] [(3,2,1073741824)] (pCons (pList 2 pAny) (pCons (pList 2 pAny) (pCons (pInt .i64) pNil))) pNil fun (l,(a,(n,_))) _=>((Iter (xbP l) (a,n)).isSome,xfz l ((Iter (xbP l) (a,n)).getD (false,([],[]),[])))
theorem xy1:LoopOk Tryz.prog (ITryz.at xhQ.pin) xhQ.nt (loopAt Tryz.f48 0) xrT:=xaY fun c e f d=>by
 obtain ⟨l,⟨a,⟨n,_⟩⟩⟩:=c
 obtain ⟨b,rfl⟩:=Prod.mk.inj d
 exact xaG mxTryz (inv0Ok Tryz.prog _) rfl xzW xuL (xgB l) (xfz l) (fun p=>by simp only [xfz,LR.eval];first|(simp;done)|(repeat' split<;>simp)) (xBp l) (s:=(a,n)) (xab b)
def xjQ:Env:=xy6.fn 31 0 (lsOf []) (lpsOf [(9,xmG),(3,xrT)])
theorem xAB:OrcOk Tryz.prog (ITryz.at 0) xjQ:=xuk.fn
theorem xwY:LoOk Tryz.prog (ITryz.at xjQ.pin) xjQ (Tryz.f48.body.getD .skip):=xaP (ls:=[loopAt Tryz.f48 0,loopAt Tryz.f48 1]) (by kernel_rfl) (lkC xy1 (lkC xq0 lkN))
def xqp (l:LA):=(Iter (xbP l) ([],1)).getD (false,([],[]),[])
def xqz (l:LA):=(xqp l).snd
def xnr {T:Type} (l:LA) (δ:T) (κ:LA→T):T:=br ((Iter (xbP l) ([],1)).isSome) (br ((xqp l).fst) (κ ((xqz l).fst.fst)) (κ ((xqz l).snd))) δ
def xdq (l:LA):Option (LA):=xnr l none some
theorem xEU (l:LA):Enc (fun (p:LA)=>((AV.list 2 p):AV)) (xdq l) (XF Tryz.prog xjQ Tryz.f48 (Tryz.f48.body.getD .skip) [AV.list 2 l]):=by
 refine eV (xnr l none (fun (p:LA)=>some ((AV.list 2 p):AV))) (by kernel_rfl) ?_;unfold xdq xnr;repeat' first|exact eN|exact eS rfl|apply eB
def xvW:LA→Option (Bool×AV):=ocOf (sCons (sList 2 pAny) sNil) fun (l,_)=>((xdq l).isSome,(AV.list 2 ((xdq l).getD [])))
theorem xEO:OcOk Tryz.prog ITryz 48 (xvW):=xaN fun c f e=>by
 obtain ⟨l,_⟩:=c
 obtain ⟨a,b⟩:=Prod.mk.inj e
 refine xaH (p:=xjQ.pin) (xaL mxTryz (inv0Ok Tryz.prog _) rfl xAB Tryz.func48 rfl (by kernel_rfl) xwY ((xEU _ _ (xab (d:=[]) a)).trans ?_))
 exact congrArg some b
def xLx:Env:=xy6.with 48 xvW
theorem xL2:OrcOk Tryz.prog ITryz xLx:=xuk.with xEO
abbrev EKR2:Env:=xLx
theorem xFo:OrcOk Tryz.prog ITryz EKR2:=xL2
end Go.Sim.M
end
noncomputable section
set_option maxRecDepth 100000
namespace Go.Sim.M
open Go.IntKind (i64 u64 u8)
open Go.RowKit Go.Proofs
def xhV:Env:=EKR2.fn 23 0 (lsOf []) (lpsOf [])
theorem xz0:OrcOk Tryz.prog (ITryz.at 0) xhV:=xFo.fn
theorem xuN:LoOk Tryz.prog (ITryz.at xhV.pin) xhV (loopAt Tryz.f47 0):=xaq (by kernel_rfl)
def xie {T:Type} (d c:LA) (a:Nat) (i:Int) (b:LA) (δ:T) (κl:(Nat×Int×LA)→T) (κr:(Nat×LA)→T):T:=br (decide (i<c.length)) (br (decide (0≤i)&&decide (i<c.length)) (br (decide (i.toNat<c.length)&&((c.getD i.toNat .top).cells.length==2&&hasShs [Sh.int .i64,Sh.int .i64] (c.getD i.toNat .top).cells 0)) (br (a==b.length&&(decide ((a+1)*40≤140737488355328)&&decide (a+1≤4611686018427387904))) (κl (a+1,i64.wrap (i+1),b++[AV.agg [AV.list 3 d,AV.int .i64 ((c.getD i.toNat .top).cells.getD 0 .top).toInt,AV.int .i64 ((c.getD i.toNat .top).cells.getD 1 .top).toInt]])) δ) δ) δ) (κr (a,b))
def xbS (c d:LA):(Nat×Int×LA)→Option ((Nat×Int×LA)⊕(Nat×LA)):=fun (b,i,a)=>xie c d b i a none (fun s=>some (.inl s)) (fun p=>some (.inr p))
def xgk (c d:LA):(Nat×Int×LA)→LA×List Box:=fun (b,i,a)=>([AV.list 3 c,AV.list 2 d,AV.osl 0 0 0 b,AV.int .i64 i],[⟨0,3,42,a,false,true⟩])
def xe2 (a b:LA):(Nat×LA)→LR:=fun p=>(.leaf (.exit 0) [AV.osl 0 0 0 p.1] [⟨0,3,42,p.2,false,true⟩])
abbrev xBq (a:LA) (H:List Box):=XR Tryz.prog xhV [0,1,5,6] [5] [(5,3,42)] (loopAt Tryz.f47 0) a H
theorem xBm (a b:LA) (s:Nat×Int×LA):Enc (encR (xgk a b) (xe2 a b)) (xbS a b s) (xBq (xgk a b s).1 (xgk a b s).2):=by
 obtain ⟨d,i,c⟩:=s
 refine eV (xie a b d i c none (fun s=>some (encR (xgk a b) (xe2 a b) (.inl s))) (fun p=>some (encR (xgk a b) (xe2 a b) (.inr p)))) (by kernel_rfl) ?_;unfold xbS xie;repeat' first|exact eN|exact eS rfl|apply eB
def xrC:Lp:=lpOf [0,1,5,6] [5] [(5,3,42)] (pCons (pList 3 pAny) (pCons (pList 2 pAny) (pCons (pOsl 0 0 0) (pCons (pInt .i64) pNil)))) (pCons (pBox 0 3 42 false true pAny) pNil) fun (c,(d,(b,(i,_)))) (a,_)=>((Iter (xbS c d) (b,i,a)).isSome,xe2 c d ((Iter (xbS c d) (b,i,a)).getD (0,[])))
theorem xyV:LoopOk Tryz.prog (ITryz.at xhV.pin) xhV.nt (loopAt Tryz.f47 0) xrC:=xaY fun f g j h=>by
 obtain ⟨a,⟨d,⟨c,⟨i,_⟩⟩⟩⟩:=f
 obtain ⟨b,_⟩:=g
 obtain ⟨e,rfl⟩:=Prod.mk.inj h
 exact xaG mxTryz (inv0Ok Tryz.prog _) rfl xz0 xuN (xgk a d) (xe2 a d) (fun p=>by simp only [xe2,LR.eval];first|(simp;done)|(repeat' split<;>simp)) (xBm a d) (s:=(c,i,b)) (xab e)
def xjP:Env:=EKR2.fn 23 0 (lsOf []) (lpsOf [(3,xrC)])
theorem xzQ:OrcOk Tryz.prog (ITryz.at 0) xjP:=xFo.fn
theorem xwl:LoOk Tryz.prog (ITryz.at xjP.pin) xjP (Tryz.f47.body.getD .skip):=xaP (ls:=[loopAt Tryz.f47 0]) (by kernel_rfl) (lkC xyV lkN)
def xqd (a b:LA):=(Iter (xbS a b) (0,0,[])).getD (0,[])
def xpy (a b:LA):=(xqd a b).snd
def xqw (a b:LA):=(xqd a b).fst
def xnp {T:Type} (a b:LA) (δ:T) (κ:LA→T):T:=br ((Iter (xbS a b) (0,0,[])).isSome) (br (decide (0+xqw a b≤(xpy a b).length)&&true) (κ (List.take (xqw a b) (List.drop 0 (xpy a b)))) δ) δ
def xgi (a b:LA):Option (LA):=xnp a b none some
theorem xEJ (a b:LA):Enc (fun (p:LA)=>((AV.list 3 p):AV)) (xgi a b) (XF Tryz.prog xjP Tryz.f47 (Tryz.f47.body.getD .skip) [AV.list 3 a,AV.list 2 b]):=by
 refine eV (xnp a b none (fun (p:LA)=>some ((AV.list 3 p):AV))) (by kernel_rfl) ?_;unfold xgi xnp;repeat' first|exact eN|exact eS rfl|apply eB
def xvY:LA→Option (Bool×AV):=ocOf (sCons (sList 3 pAny) (sCons (sList 2 pAny) sNil)) fun (a,(b,_))=>((xgi a b).isSome,(AV.list 3 ((xgi a b).getD [])))
theorem xE8:OcOk Tryz.prog ITryz 47 (xvY):=xaN fun c g e=>by
 obtain ⟨f,⟨h,_⟩⟩:=c
 obtain ⟨a,b⟩:=Prod.mk.inj e
 refine xaH (p:=xjP.pin) (xaL mxTryz (inv0Ok Tryz.prog _) rfl xzQ Tryz.func47 rfl (by kernel_rfl) xwl ((xEJ _ _ _ (xab (d:=[]) a)).trans ?_))
 exact congrArg some b
def xDo:Env:=EKR2.with 47 xvY
theorem xzk:OrcOk Tryz.prog ITryz xDo:=xFo.with xE8
def xk7:Env:=xDo.fn 29 0 (lsOf []) (lpsOf [])
theorem xDs:OrcOk Tryz.prog (ITryz.at 0) xk7:=xzk.fn
theorem xyH:LoOk Tryz.prog (ITryz.at xk7.pin) xk7 (loopAt Tryz.f15 0):=xaq (by kernel_rfl)
def xme (g:LA) (a:Nat) (i:Int):=a+((xgi ((g.getD i.toNat .top).cells.getD 0 .top).toList ((xdq ((g.getD i.toNat .top).cells.getD 1 .top).toList).getD [])).getD []).length
def xk8 {T:Type} (g:LA) (a:Nat) (i:Int) (b:LA) (δ:T) (κl:(Nat×Int×LA)→T) (κr:(Nat×LA)→T):T:=br (decide (i<g.length)) (br (decide (0≤i)&&decide (i<g.length)) (br (decide (i.toNat<g.length)&&hasSh1 (Sh.list 3) ((g.getD i.toNat .top).cells.getD 0 .top)) (br (decide (0≤i)&&decide (i<g.length)) (br (decide (i.toNat<g.length)&&hasSh1 (Sh.list 2) ((g.getD i.toNat .top).cells.getD 1 .top)) (br ((xdq ((g.getD i.toNat .top).cells.getD 1 .top).toList).isSome) (br ((xgi ((g.getD i.toNat .top).cells.getD 0 .top).toList ((xdq ((g.getD i.toNat .top).cells.getD 1 .top).toList).getD [])).isSome) (br (a==b.length&&(decide (xme g a i*40≤140737488355328)&&decide (xme g a i≤4611686018427387904))) (κl (xme g a i,i64.wrap (i+1),b++(xgi ((g.getD i.toNat .top).cells.getD 0 .top).toList ((xdq ((g.getD i.toNat .top).cells.getD 1 .top).toList).getD [])).getD [])) δ) δ) δ) δ) δ) δ) δ) (κr (a,b))
def xdi (g:LA):(Nat×Int×LA)→Option ((Nat×Int×LA)⊕(Nat×LA)):=fun (b,i,a)=>xk8 g b i a none (fun s=>some (.inl s)) (fun p=>some (.inr p))
def xiH (g:LA):(Nat×Int×LA)→LA×List Box:=fun (b,i,a)=>([AV.list 2 g,AV.osl 0 0 0 b,AV.int .i64 i],[⟨0,3,42,a,false,true⟩])
def xhl (g:LA):(Nat×LA)→LR:=fun p=>(.leaf (.exit 0) [AV.osl 0 0 0 p.1] [⟨0,3,42,p.2,false,true⟩])
abbrev xFa (a:LA) (H:List Box):=XR Tryz.prog xk7 [3,4,5] [4] [(4,3,42)] (loopAt Tryz.f15 0) a H
theorem xE6 (g:LA) (s:Nat×Int×LA):Enc (encR (xiH g) (xhl g)) (xdi g s) (xFa (xiH g s).1 (xiH g s).2):=by
 obtain ⟨b,i,a⟩:=s
 refine eV (xk8 g b i a none (fun s=>some (encR (xiH g) (xhl g) (.inl s))) (fun p=>some (encR (xiH g) (xhl g) (.inr p)))) (by kernel_rfl) ?_;unfold xdi xk8;repeat' first|exact eN|exact eS rfl|apply eB
def xua:Lp:=lpOf [3,4,5] [4] [(4,3,42)] (pCons (pList 2 pAny) (pCons (pOsl 0 0 0) (pCons (pInt .i64) pNil))) (pCons (pBox 0 3 42 false true pAny) pNil) fun (g,(b,(i,_))) (a,_)=>((Iter (xdi g) (b,i,a)).isSome,xhl g ((Iter (xdi g) (b,i,a)).getD (0,[])))
theorem xCN:LoopOk Tryz.prog (ITryz.at xk7.pin) xk7.nt (loopAt Tryz.f15 0) xua:=xaY fun d e h f=>by
 obtain ⟨g,⟨b,⟨i,_⟩⟩⟩:=d
 obtain ⟨a,_⟩:=e
 obtain ⟨c,rfl⟩:=Prod.mk.inj f
 exact xaG mxTryz (inv0Ok Tryz.prog _) rfl xDs xyH (xiH g) (xhl g) (fun p=>by simp only [xhl,LR.eval];first|(simp;done)|(repeat' split<;>simp)) (xE6 g) (s:=(b,i,a)) (xab c)
def xmr:Env:=xDo.fn 29 0 (lsOf []) (lpsOf [(4,xua)])
theorem xC2:OrcOk Tryz.prog (ITryz.at 0) xmr:=xzk.fn
theorem xA3:LoOk Tryz.prog (ITryz.at xmr.pin) xmr (Tryz.f15.body.getD .skip):=xaP (ls:=[loopAt Tryz.f15 0]) (by kernel_rfl) (lkC xCN lkN)
def xtB (l:LA):=(Iter (xdi ((xf3 l).getD [])) (0,0,[])).getD (0,[])
def xtr (l:LA):=(xtB l).fst
def xte (l:LA):=(xtB l).snd
def xrq {T:Type} (l:LA) (δ:T) (κ:LA→T):T:=br ((xf3 l).isSome) (br ((Iter (xdi ((xf3 l).getD [])) (0,0,[])).isSome) (br (decide (0+xtr l≤(xte l).length)&&true) (κ (List.take (xtr l) (List.drop 0 (xte l)))) δ) δ) δ
def xlh (l:LA):Option (LA):=xrq l none some
theorem xIY (l:LA):Enc (fun (p:LA)=>((AV.list 3 p):AV)) (xlh l) (XF Tryz.prog xmr Tryz.f15 (Tryz.f15.body.getD .skip) [AV.list 3 l]):=by
 refine eV (xrq l none (fun (p:LA)=>some ((AV.list 3 p):AV))) (by kernel_rfl) ?_;unfold xlh xrq;repeat' first|exact eN|exact eS rfl|apply eB
def xCb:LA→Option (Bool×AV):=ocOf (sCons (sList 3 pAny) sNil) fun (l,_)=>((xlh l).isSome,(AV.list 3 ((xlh l).getD [])))
theorem xJk:OcOk Tryz.prog ITryz 15 (xCb):=xaN fun c f e=>by
 obtain ⟨l,_⟩:=c
 obtain ⟨a,b⟩:=Prod.mk.inj e
 refine xaH (p:=xmr.pin) (xaL mxTryz (inv0Ok Tryz.prog _) rfl xC2 Tryz.func15 rfl (by kernel_rfl) xA3 ((xIY _ _ (xab (d:=[]) a)).trans ?_))
 exact congrArg some b
def xLC:Env:=xDo.with 15 xCb
theorem xM1:OrcOk Tryz.prog ITryz xLC:=xzk.with xJk
abbrev xLE:Env:=xLC
theorem xLk:OrcOk Tryz.prog ITryz xLE:=xM1
abbrev xMO:Env:=xLE
theorem xME:OrcOk Tryz.prog ITryz xMO:=xLk
abbrev xDg:Env:=xMO
theorem xz3:OrcOk Tryz.prog ITryz xDg:=xME
def xgr:Env:=xDg.fn 38 0 (lsOf []) (lpsOf [])
theorem xwk:OrcOk Tryz.prog (ITryz.at 0) xgr:=xz3.fn
theorem xs5:LoOk Tryz.prog (ITryz.at xgr.pin) xgr (loopAt Tryz.f24 0):=xaq (by kernel_rfl)
def xgW {T:Type} (l:LA) (a:Nat) (i c d:Int) (b:LA) (δ:T) (κl:(Nat×Int×Int×Int×LA)→T) (κr:(Nat×LA)→T):T:=br (decide (i<l.length)) (br (decide (0≤i)&&decide (i<l.length)) (br (decide (i.toNat<l.length)&&((l.getD i.toNat .top).cells.length==3&&hasShs [Sh.int .i64,Sh.int .i64] (l.getD i.toNat .top).cells 1)) (br ((xcH ((l.getD i.toNat .top).cells.getD 1 .top).toInt ((l.getD i.toNat .top).cells.getD 2 .top).toInt c d).snd.snd) (br (decide (0≤i)&&decide (i<l.length)) (br (decide (i.toNat<l.length)&&hasSh1 (Sh.list 3) ((l.getD i.toNat .top).cells.getD 0 .top)) (br (a==b.length&&(decide ((a+1)*40≤140737488355328)&&decide (a+1≤4611686018427387904))) (κl (a+1,i64.wrap (i+1),c,d,b++[AV.agg [AV.list 3 ((l.getD i.toNat .top).cells.getD 0 .top).toList,AV.int .i64 (xcH ((l.getD i.toNat .top).cells.getD 1 .top).toInt ((l.getD i.toNat .top).cells.getD 2 .top).toInt c d).fst,AV.int .i64 (xcH ((l.getD i.toNat .top).cells.getD 1 .top).toInt ((l.getD i.toNat .top).cells.getD 2 .top).toInt c d).snd.fst]])) δ) δ) δ) (κl (a,i64.wrap (i+1),c,d,b))) δ) δ) (κr (a,b))
def xbQ (l:LA):(Nat×Int×Int×Int×LA)→Option ((Nat×Int×Int×Int×LA)⊕(Nat×LA)):=fun (b,i,c,d,a)=>xgW l b i c d a none (fun s=>some (.inl s)) (fun p=>some (.inr p))
def xfv (l:LA):(Nat×Int×Int×Int×LA)→LA×List Box:=fun (b,i,c,d,a)=>([AV.list 3 l,AV.own 0 0 0 0,AV.osl 1 0 0 b,AV.int .i64 i],[⟨0,2,31,[AV.agg [AV.int .i64 c,AV.int .i64 d]],false,true⟩,⟨0,3,42,a,false,true⟩])
def xef (l:LA):(Nat×LA)→LR:=fun p=>(.leaf (.exit 0) [AV.osl 0 0 0 p.1] [⟨0,3,42,p.2,false,true⟩])
abbrev xyF (a:LA) (H:List Box):=XR Tryz.prog xgr [0,3,5,6] [5] [(5,3,42)] (loopAt Tryz.f24 0) a H
theorem xyu (l:LA) (s:Nat×Int×Int×Int×LA):Enc (encR (xfv l) (xef l)) (xbQ l s) (xyF (xfv l s).1 (xfv l s).2):=by
 obtain ⟨b,i,c,d,a⟩:=s
 refine eV (xgW l b i c d a none (fun s=>some (encR (xfv l) (xef l) (.inl s))) (fun p=>some (encR (xfv l) (xef l) (.inr p)))) (by kernel_rfl) ?_;unfold xbQ xgW;repeat' first|exact eN|exact eS rfl|apply eB
def xqt:Lp:=lpOf [0,3,5,6] [5] [(5,3,42)] (pCons (pList 3 pAny) (pCons (pOwn 0 0 0 0) (pCons (pOsl 1 0 0) (pCons (pInt .i64) pNil)))) (pCons (pBox 0 2 31 false true (pCons (pAgg (pCons (pInt .i64) (pCons (pInt .i64) pNil))) pNil)) (pCons (pBox 0 3 42 false true pAny) pNil)) fun (l,(_,(b,(i,_)))) (((c,(d,_)),_),(a,_))=>((Iter (xbQ l) (b,i,c,d,a)).isSome,xef l ((Iter (xbQ l) (b,i,c,d,a)).getD (0,[])))
theorem xvA:LoopOk Tryz.prog (ITryz.at xgr.pin) xgr.nt (loopAt Tryz.f24 0) xqt:=xaY fun f g j h=>by
 obtain ⟨l,⟨_,⟨b,⟨i,_⟩⟩⟩⟩:=f
 obtain ⟨⟨⟨c,⟨d,_⟩⟩,_⟩,⟨a,_⟩⟩:=g
 obtain ⟨e,rfl⟩:=Prod.mk.inj h
 exact xaG mxTryz (inv0Ok Tryz.prog _) rfl xwk xs5 (xfv l) (xef l) (fun p=>by simp only [xef,LR.eval];first|(simp;done)|(repeat' split<;>simp)) (xyu l) (s:=(b,i,c,d,a)) (xab e)
def xil:Env:=xDg.fn 38 0 (lsOf []) (lpsOf [(3,xqt)])
theorem xwS:OrcOk Tryz.prog (ITryz.at 0) xil:=xz3.fn
theorem xux:LoOk Tryz.prog (ITryz.at xil.pin) xil (Tryz.f24.body.getD .skip):=xaP (ls:=[loopAt Tryz.f24 0]) (by kernel_rfl) (lkC xvA lkN)
def xnT (l:LA) (a b:Int):=Iter (xbQ l) (0,0,a,b,[])
def xnW (l:LA) (a b:Int):=(xnT l a b).getD (0,[])
def xn0 (l:LA) (a b:Int):=(xnW l a b).fst
def xnS (l:LA) (a b:Int):=(xnW l a b).snd
def xnR (l:LA) (a b:Int):=xlh (List.take (xn0 l a b) (List.drop 0 (xnS l a b)))
def xlt {T:Type} (l:LA) (a b:Int) (δ:T) (κ:LA→T):T:=br ((xnT l a b).isSome) (br (decide (0+xn0 l a b≤(xnS l a b).length)&&true) (br ((xnR l a b).isSome) (κ ((xnR l a b).getD [])) δ) δ) δ
def xeS (l:LA) (a b:Int):Option (LA):=xlt l a b none some
theorem xCy (l:LA) (a b:Int):Enc (fun (p:LA)=>((AV.list 3 p):AV)) (xeS l a b) (XF Tryz.prog xil Tryz.f24 (Tryz.f24.body.getD .skip) [AV.list 3 l,AV.agg [AV.int .i64 a,AV.int .i64 b]]):=by
 refine eV (xlt l a b none (fun (p:LA)=>some ((AV.list 3 p):AV))) (by kernel_rfl) ?_;unfold xeS xlt;repeat' first|exact eN|exact eS rfl|apply eB
def xtt:LA→Option (Bool×AV):=ocOf (sCons (sList 3 pAny) (sCons (sAgg (sCons (sEq (pInt .i64)) (sCons (sEq (pInt .i64)) sNil))) sNil)) fun (l,((a,(b,_)),_))=>((xeS l a b).isSome,(AV.list 3 ((xeS l a b).getD [])))
theorem xCZ:OcOk Tryz.prog ITryz 24 (xtt):=xaN fun c h e=>by
 obtain ⟨l,⟨⟨f,⟨g,_⟩⟩,_⟩⟩:=c
 obtain ⟨a,b⟩:=Prod.mk.inj e
 refine xaH (p:=xil.pin) (xaL mxTryz (inv0Ok Tryz.prog _) rfl xwS Tryz.func24 rfl (by kernel_rfl) xux ((xCy _ _ _ _ (xab (d:=[]) a)).trans ?_))
 exact congrArg some b
def xMo:Env:=xDg.with 24 xtt
theorem xLG:OrcOk Tryz.prog ITryz xMo:=xz3.with xCZ
abbrev xNf:Env:=xMo
theorem xLA:OrcOk Tryz.prog ITryz xNf:=xLG
abbrev xLO:Env:=xNf
theorem xLz:OrcOk Tryz.prog ITryz xLO:=xLA
abbrev xLP:Env:=xLO
theorem xMg:OrcOk Tryz.prog ITryz xLP:=xLz
abbrev xJx:Env:=xLP
theorem xLg:OrcOk Tryz.prog ITryz xJx:=xMg
abbrev EKR3:Env:=xJx
theorem xPr:OrcOk Tryz.prog ITryz EKR3:=xLg
end Go.Sim.M
end
noncomputable section
set_option maxRecDepth 100000
namespace Go.Sim
def stepX (P:Program) (E:Env) (live liveO:List Nat) (conv:List (Nat×Nat×TypeId)) (c:Code) (s:List AV×List Box):Option ((List AV×List Box)⊕{r:Exit×List AV×List Box // r.1≠.normal}) :=
 match XR P E live liveO conv c s.1 s.2 with
 | some (.normal,v,H)=>some (.inl (v,H))
 | some (.exit i,v,H)=>some (.inr ⟨(.exit i,v,H),by simp⟩)
 | some (.ret,v,H)=>some (.inr ⟨(.ret,v,H),by simp⟩)
 | _=>none
def closedLp (P:Program) (E:Env) (live liveO:List Nat) (conv:List (Nat×Nat×TypeId)) (c:Code) (n:Nat):Lp:=⟨live,liveO,conv,fun vals H =>
 match iterN (stepX P E live liveO conv c) n (vals,H) with
 | some r=>some (true,.leaf r.1.1 r.1.2.1 r.1.2.2)
 | none=>none⟩
theorem xJp {P:Program} {Inv:IV} {E:Env} (hmx:P.follows .mixedOrders=true) (hIo:InvOk Inv) (hpin:Inv.pin=E.pin) (hor:OrcOk P Inv E) {c:Code} (hlo:LoOk P Inv E c) {live liveO:List Nat} {conv:List (Nat×Nat×TypeId)} {n:Nat} :
  LoopOk P Inv E.nt c (closedLp P E live liveO conv c n):=fun vals H r h=>by
 simp only [closedLp] at h
 split at h
 case h_2=>simp at h
 rename_i r0 hr
 simp only [Option.some.injEq,Prod.mk.injEq,true_and] at h
 subst h
 exact xaG hmx hIo hpin hor hlo (σ:=List AV×List Box) (ρ:={r:Exit×List AV×List Box // r.1≠.normal}) (step:=stepX P E live liveO conv c) (fun s=>s) (fun r=>.leaf r.1.1 r.1.2.1 r.1.2.2) (fun r=>r.2)
  (fun s r hs=>by
   unfold stepX at hs
   split at hs<;>simp only [Option.some.injEq,reduceCtorEq] at hs
   all_goals (subst hs;rename_i hx;exact hx)) (s:=(vals,H)) (r:=r0) (xre.2 ⟨n,hr⟩)
end Go.Sim
namespace Go.Sim.M
open Go.RowKit Go.Proofs
def mmA (g:FuncId):Bool:=([115,117,
 129,154,167,
 95,128,146,
 69,94,120,
 53,82,100,55,
 92,119,141,
 112,137,157,
 97,68,90,78]:List Nat).contains g
noncomputable def EA0:Env:={ E0 with ls:=lsOf [40,42,83],fuel:=1000 }
theorem xL6:OrcOk Tryz.prog ITryz EA0:=xKY
noncomputable def EAr:Env:={ Env.deep Tryz.prog mmA EA0 10 with pin:=0,nt:=60,ls:=lsOf [] }
theorem xLt:OrcOk Tryz.prog (ITryz.at 0) EAr:=xsQ mxTryz mmA (inv0Ok Tryz.prog 0) xL6 (fun _=>rfl) 10
noncomputable def xMu:Lp:=closedLp Tryz.prog EAr [3,4,11,12,13] [4] [(4,2,133280301139)] (loopAt Tryz.f67 0) 100
noncomputable def EAr1:Env:={ EAr with lp:=lpsOf [(codeId (loopAt Tryz.f67 0),xMu)] }
theorem xPB:OrcOk Tryz.prog (ITryz.at 0) EAr1:=xLt
noncomputable def xEM:List AV→Option (Bool×AV):=fun xs=>match XF Tryz.prog EAr1 Tryz.f67 (Tryz.f67.body.getD .skip) xs with
 | some r=>some (true,r)
 | none=>none
theorem xPp:OcOk Tryz.prog ITryz 67 xEM:=fun xs r h=>by
 unfold xEM at h
 split at h
 case h_2=>simp at h
 rename_i r0 hr
 simp only [Option.some.injEq,Prod.mk.injEq,true_and] at h
 subst h
 refine xaH (p:=0) (xaL mxTryz (inv0Ok Tryz.prog _) rfl xPB Tryz.func67 rfl (by kernel_rfl) (xaP (ls:=[loopAt Tryz.f67 0]) (by kernel_rfl) (fun l hl lp hs=>?_)) hr)
 simp only [List.mem_cons,List.not_mem_nil,or_false] at hl
 subst hl
 rw [show EAr1.lp (codeId (loopAt Tryz.f67 0))=some xMu by kernel_rfl] at hs
 simp only [Option.some.injEq] at hs
 subst hs
 exact xJp (E:=EAr) mxTryz (inv0Ok Tryz.prog _) rfl xLt (xr3 fun _=>rfl)
noncomputable def EAs:Env:=EA0.with 67 xEM
theorem xM5:OrcOk Tryz.prog ITryz EAs:=xL6.with xPp
noncomputable def EAd:Env:={ Env.deep Tryz.prog mmA EAs 14 with pin:=0 }
mutual
def eqV:AV→AV→Bool
 | .int k a,.int k' b=>decide (k=k')&&decide (a=b)
 | .bool a,.bool b=>a==b
 | .str a,.str b=>decide (a=b)
 | .list n a,.list m b=>Nat.beq n m&&eqVs a b
 | .agg a,.agg b=>eqVs a b
 | _,_=>false
def eqVs:List AV→List AV→Bool
 | [],[]=>true
 | a::l,b::m=>eqV a b&&eqVs l m
 | _,_=>false
end
mutual
theorem xQj:∀ (a b:AV),eqV a b=true→a=b:=fun a b h=>by
 cases a<;>cases b<;>first|(simp [eqV] at h;done)|skip
 all_goals simp only [eqV,Bool.and_eq_true,decide_eq_true_eq,beq_iff_eq] at h
 all_goals first|(rw [h.1,h.2];done)|(rw [h];done)|(rw [Nat.eq_of_beq_eq_true h.1,xAJ _ _ h.2];done)|(rw [xAJ _ _ h])
theorem xAJ:∀ (a b:List AV),eqVs a b=true→a=b
 | [],[],_=>rfl
 | a::l,b::m,h=>by simp only [eqVs,Bool.and_eq_true] at h;rw [xQj a b h.1,xAJ l m h.2]
 | [],_::_,h=>by simp [eqVs] at h
 | _::_,[],h=>by simp [eqVs] at h
end
def ptO (args:List AV) (r:AV):List AV→Option (Bool×AV):=fun xs=>match eqVs xs args with
 | true=>some (true,r)
 | false=>none
theorem xHf {P:Program} {Inv:IV} {f:FuncId} {args:List AV} {r:AV} (h:Good P Inv f args r):OcOk P Inv f (ptO args r):=fun xs r0 h0=>by
 unfold ptO at h0
 split at h0
 case h_2=>simp at h0
 rename_i he
 simp only [Option.some.injEq,Prod.mk.injEq,true_and] at h0
 subst h0
 rw [xAJ _ _ he];exact h
theorem xuq {f:FuncId} {fn:Func} {args:List AV} {r:AV} (hf:Tryz.prog.funcs[f]?=some fn) (hb:fn.body.isSome=true) (hname:(fn.name == "runtime.NumGoroutine")=false) (h:XF Tryz.prog EAd fn (fn.body.getD .skip) args=some r):Good Tryz.prog ITryz f args r :=
 xaH (p:=0) (xaL mxTryz (inv0Ok Tryz.prog _) rfl (xt5 (xsQ mxTryz mmA (inv0Ok Tryz.prog 0) xM5 (fun _=>rfl) 14)) hf hb hname (xr3 fun _=>rfl) h)
def fcA (a b:Int):AV:=.agg [.list 3 [.agg [.int .i64 1,.int .i64 1,.str []]],.int .i64 a,.int .i64 b]
def lA:AV:=.list 3 [fcA 0 5,fcA 5 8,fcA 2 3]
set_option maxRecDepth 100000 in
theorem xPZ:XF Tryz.prog EAd Tryz.f14 (Tryz.f14.body.getD .skip) [lA]=some (.list 3 [fcA 0 8,fcA 2 3]):=by kernel_rfl
theorem xQo:XF Tryz.prog EAd Tryz.f16 (Tryz.f16.body.getD .skip) [lA]=some (.list 3 [fcA 0 8]):=by kernel_rfl
theorem xP8:OcOk Tryz.prog ITryz 14 (ptO [lA] (.list 3 [fcA 0 8,fcA 2 3])):=xHf (xuq Tryz.func14 rfl (by kernel_rfl) xPZ)
theorem xQc:OcOk Tryz.prog ITryz 16 (ptO [lA] (.list 3 [fcA 0 8])):=xHf (xuq Tryz.func16 rfl (by kernel_rfl) xQo)
def resA:AV:=.list 3 [fcA 2 5,fcA 5 6,fcA 2 3]
theorem xP4:XF Tryz.prog EAd Tryz.f14 (Tryz.f14.body.getD .skip) [resA]=some (.list 3 [fcA 2 3,fcA 2 6]):=by kernel_rfl
theorem xQk:OcOk Tryz.prog ITryz 14 (ptO [resA] (.list 3 [fcA 2 3,fcA 2 6])):=xHf (xuq Tryz.func14 rfl (by kernel_rfl) xP4)
theorem xPX:XF Tryz.prog EAd Tryz.f21 (Tryz.f21.body.getD .skip) [lA]=some (.list 1 [.int .i64 0,.int .i64 2,.int .i64 3,.int .i64 5,.int .i64 8]):=by kernel_rfl
theorem xP5:OcOk Tryz.prog ITryz 21 (ptO [lA] (.list 1 [.int .i64 0,.int .i64 2,.int .i64 3,.int .i64 5,.int .i64 8])):=xHf (xuq Tryz.func21 rfl (by kernel_rfl) xPX)
noncomputable def EAt:Env:=(((EAs.with 14 (ptO [lA] (.list 3 [fcA 0 8,fcA 2 3]))).with 14 (ptO [resA] (.list 3 [fcA 2 3,fcA 2 6]))).with 16 (ptO [lA] (.list 3 [fcA 0 8]))).with 21 (ptO [lA] (.list 1 [.int .i64 0,.int .i64 2,.int .i64 3,.int .i64 5,.int .i64 8]))
theorem xQf:OrcOk Tryz.prog ITryz EAt:=(((xM5.with xP8).with xQk).with xQc).with xP5
noncomputable def EAe:Env:={ Env.deep Tryz.prog mmA EAt 14 with pin:=0 }
theorem xPk:XF Tryz.prog EAe Tryz.f12 (Tryz.f12.body.getD .skip) []=some (.bool true):=by kernel_rfl
def xFp:List AV→Option (Bool×AV)
 | []=>some (true,.bool true)
 | _=>none
theorem xPU:OcOk Tryz.prog ITryz 12 xFp:=fun xs r h=>by
 unfold xFp at h;split at h
 · simp only [Option.some.injEq,Prod.mk.injEq,true_and] at h;subst h
   have hd:=xsQ mxTryz mmA (inv0Ok Tryz.prog 0) xQf (fun _=>rfl) 14
   exact xaH (p:=0) (xaL mxTryz (inv0Ok Tryz.prog _) rfl (xt5 hd) Tryz.func12 rfl (by kernel_rfl) (xr3 fun _=>rfl) xPk)
 · simp at h
end Go.Sim.M
end
noncomputable section
namespace Go.Sim.M
open Go.IntKind (i64 u64 u8)
open Go.RowKit Go.Proofs
def EKA:Env:=EKR3.with 12 xFp
theorem xHT:OrcOk Tryz.prog ITryz EKA:=xPr.with xPU
end Go.Sim.M
end
noncomputable section
set_option maxRecDepth 100000
namespace Go.Sim.M
open Go.IntKind (i64 u64 u8)
open Go.RowKit Go.Proofs
def xkH:Env:=EKA.fn 23 0 (lsOf []) (lpsOf [])
theorem xD1:OrcOk Tryz.prog (ITryz.at 0) xkH:=xHT.fn
theorem xyK:LoOk Tryz.prog (ITryz.at xkH.pin) xkH (loopAt Tryz.f40 0):=xaq (by kernel_rfl)
def xlc {T:Type} (l:LA) (i:Int) (δ:T) (κl:(Int)→T) (κr:(Bool×(Bool)×(Unit))→T):T:=br (decide (i<l.length)) (br (decide (0≤i)&&decide (i<l.length)) (br (decide (i.toNat<l.length)&&hasSh1 (Sh.list 3) ((l.getD i.toNat .top).cells.getD 0 .top)) (br (decide ((↑((l.getD i.toNat .top).cells.getD 0 .top).toList.length:Int)>60)) (κr (true,(false),())) (κl (i64.wrap (i+1)))) δ) δ) (κr (false,false,()))
def xch (l:LA):(Int)→Option ((Int)⊕(Bool×(Bool)×(Unit))):=fun (i)=>xlc l i none (fun s=>some (.inl s)) (fun p=>some (.inr p))
def xiG (l:LA):(Int)→LA×List Box:=fun (i)=>([AV.list 3 l,AV.int .i64 i],[])
def xg1 (l:LA):(Bool×(Bool)×(Unit))→LR:=fun p=>(.node p.1 (.leaf .ret [AV.bool p.2.1] []) (.leaf (.exit 0) [.top] []))
abbrev xFC (a:LA) (H:List Box):=XR Tryz.prog xkH [0,5] [4] [] (loopAt Tryz.f40 0) a H
theorem xFw (l:LA) (i:Int):Enc (encR (xiG l) (xg1 l)) (xch l i) (xFC (xiG l i).1 (xiG l i).2):=by
 refine eV (xlc l i none (fun s=>some (encR (xiG l) (xg1 l) (.inl s))) (fun p=>some (encR (xiG l) (xg1 l) (.inr p)))) (by kernel_rfl) ?_;unfold xch xlc;repeat' first|exact eN|exact eS rfl|apply eB
def xud:Lp:=lpOf [0,5] [4] [] (pCons (pList 3 pAny) (pCons (pInt .i64) pNil)) pNil fun (l,(i,_)) _=>((Iter (xch l) (i)).isSome,xg1 l ((Iter (xch l) (i)).getD (false,false,())))
theorem xCn:LoopOk Tryz.prog (ITryz.at xkH.pin) xkH.nt (loopAt Tryz.f40 0) xud:=xaY fun b d e c=>by
 obtain ⟨l,⟨i,_⟩⟩:=b
 obtain ⟨a,rfl⟩:=Prod.mk.inj c
 exact xaG mxTryz (inv0Ok Tryz.prog _) rfl xD1 xyK (xiG l) (xg1 l) (fun p=>by simp only [xg1,LR.eval];first|(simp;done)|(repeat' split<;>simp)) (xFw l) (s:=(i)) (xab a)
def xmB:Env:=EKA.fn 23 0 (lsOf []) (lpsOf [(4,xud)])
theorem xC5:OrcOk Tryz.prog (ITryz.at 0) xmB:=xHT.fn
theorem xAS:LoOk Tryz.prog (ITryz.at xmB.pin) xmB (Tryz.f40.body.getD .skip):=xaP (ls:=[loopAt Tryz.f40 0]) (by kernel_rfl) (lkC xCn lkN)
def xrw {T:Type} (l:LA) (a:Int) (δ:T) (κ:Bool→T):T:=br (decide ((↑l.length:Int)>a)) (κ (false)) (br ((Iter (xch l) 0).isSome) (br (((Iter (xch l) 0).getD (false,false,())).fst) (κ (((Iter (xch l) 0).getD (false,false,())).snd.fst)) (κ (true))) δ)
def xlg (l:LA) (a:Int):Option (Bool):=xrw l a none some
theorem xI8 (l:LA) (a:Int):Enc (fun (p:Bool)=>((AV.bool p):AV)) (xlg l a) (XF Tryz.prog xmB Tryz.f40 (Tryz.f40.body.getD .skip) [AV.list 3 l,AV.int .i64 a]):=by
 refine eV (xrw l a none (fun (p:Bool)=>some ((AV.bool p):AV))) (by kernel_rfl) ?_;unfold xlg xrw;repeat' first|exact eN|exact eS rfl|apply eB
def xBZ:LA→Option (Bool×AV):=ocOf (sCons (sList 3 pAny) (sCons (sEq (pInt .i64)) sNil)) fun (l,(a,_))=>((xlg l a).isSome,(AV.bool ((xlg l a).getD false)))
theorem xIT:OcOk Tryz.prog ITryz 40 (xBZ):=xaN fun c g e=>by
 obtain ⟨l,⟨f,_⟩⟩:=c
 obtain ⟨a,b⟩:=Prod.mk.inj e
 refine xaH (p:=xmB.pin) (xaL mxTryz (inv0Ok Tryz.prog _) rfl xC5 Tryz.func40 rfl (by kernel_rfl) xAS ((xI8 _ _ _ (xab (d:=false) a)).trans ?_))
 exact congrArg some b
def xK2:Env:=EKA.with 40 xBZ
theorem xHR:OrcOk Tryz.prog ITryz xK2:=xHT.with xIT
def xm2:Env:=xK2.fn 5 0 (lsOf []) (lpsOf [])
theorem xDr:OrcOk Tryz.prog (ITryz.at 0) xm2:=xHR.fn
theorem xBB:LoOk Tryz.prog (ITryz.at xm2.pin) xm2 (Tryz.f11.body.getD .skip):=xaq (by kernel_rfl)
def xrr {T:Type} (l:LA) (δ:T) (κ:Bool→T):T:=br ((xlg l 24).isSome) (κ ((xlg l 24).getD false)) δ
def xli (l:LA):Option (Bool):=xrr l none some
theorem xJo (l:LA):Enc (fun (p:Bool)=>((AV.bool p):AV)) (xli l) (XF Tryz.prog xm2 Tryz.f11 (Tryz.f11.body.getD .skip) [AV.list 3 l]):=by
 refine eV (xrr l none (fun (p:Bool)=>some ((AV.bool p):AV))) (by kernel_rfl) ?_;unfold xli xrr;repeat' first|exact eN|exact eS rfl|apply eB
def xBY:LA→Option (Bool×AV):=ocOf (sCons (sList 3 pAny) sNil) fun (l,_)=>((xli l).isSome,(AV.bool ((xli l).getD false)))
theorem xIU:OcOk Tryz.prog ITryz 11 (xBY):=xaN fun c f e=>by
 obtain ⟨l,_⟩:=c
 obtain ⟨a,b⟩:=Prod.mk.inj e
 refine xaH (p:=xm2.pin) (xaL mxTryz (inv0Ok Tryz.prog _) rfl xDr Tryz.func11 rfl (by kernel_rfl) xBB ((xJo _ _ (xab (d:=false) a)).trans ?_))
 exact congrArg some b
def xOK:Env:=xK2.with 11 xBY
theorem xNB:OrcOk Tryz.prog ITryz xOK:=xHR.with xIU
abbrev xON:Env:=xOK
theorem xNR:OrcOk Tryz.prog ITryz xON:=xNB
abbrev xOI:Env:=xON
theorem xNZ:OrcOk Tryz.prog ITryz xOI:=xNR
abbrev xOw:Env:=xOI
theorem xNr:OrcOk Tryz.prog ITryz xOw:=xNZ
def xdK:Env:=xOw.fn 19 0 (lsOf []) (lpsOf [])
theorem xqH:OrcOk Tryz.prog (ITryz.at 0) xdK:=xNr.fn
theorem xpI:LoOk Tryz.prog (ITryz.at xdK.pin) xdK (Tryz.f4.body.getD .skip):=xaq (by kernel_rfl)
def xfZ {T:Type} (l:LA) (a b:Int) (δ:T) (κ:Bool→T):T:=br ((xli l).isSome) (br (!(xli l).getD false) (κ (true)) (br ((xdj l a b).isSome) (br ((xeS l a b).isSome) (br ((xea ((xdj l a b).getD []) ((xeS l a b).getD [])).isSome) (br ((xea ((xdj l a b).getD []) ((xeS l a b).getD [])).getD false) (κ (true)) (κ (false))) δ) δ) δ)) δ
def xcZ (l:LA) (a b:Int):Option (Bool):=xfZ l a b none some
theorem xsH (l:LA) (a b:Int):Enc (fun (p:Bool)=>((AV.bool p):AV)) (xcZ l a b) (XF Tryz.prog xdK Tryz.f4 (Tryz.f4.body.getD .skip) [AV.list 3 l,AV.agg [AV.int .i64 a,AV.int .i64 b]]):=by
 refine eV (xfZ l a b none (fun (p:Bool)=>some ((AV.bool p):AV))) (by kernel_rfl) ?_;unfold xcZ xfZ;repeat' first|exact eN|exact eS rfl|apply eB
def xsS:LA→Option (Bool×AV):=ocOf (sCons (sList 3 pAny) (sCons (sAgg (sCons (sEq (pInt .i64)) (sCons (sEq (pInt .i64)) sNil))) sNil)) fun (l,((a,(b,_)),_))=>((xcZ l a b).isSome,(AV.bool ((xcZ l a b).getD false)))
theorem xsJ:OcOk Tryz.prog ITryz 4 (xsS):=xaN fun c h e=>by
 obtain ⟨l,⟨⟨f,⟨g,_⟩⟩,_⟩⟩:=c
 obtain ⟨a,b⟩:=Prod.mk.inj e
 refine xaH (p:=xdK.pin) (xaL mxTryz (inv0Ok Tryz.prog _) rfl xqH Tryz.func4 rfl (by kernel_rfl) xpI ((xsH _ _ _ _ (xab (d:=false) a)).trans ?_))
 exact congrArg some b
end Go.Sim.M
end
